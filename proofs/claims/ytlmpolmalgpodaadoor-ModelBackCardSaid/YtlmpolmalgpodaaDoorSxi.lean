/- Sx: memory: what is known of blocks (H: parts that lie apart; what was there reads as it did but for S); what each operation leaves. Nothing of the program. -/
import Derived.Test.YtlmpolmalgpodaaDoorSxd
namespace Go.Proofs.YtlmpolmalgpodaaDoor
open Go

/-- A part of memory: its blocks, and what is known of it. -/
structure Ent where
  D : Nat → Prop
  Φ : World → Prop
def Ent.ok (e : Ent) (w : World) : Prop :=
  e.Φ w ∧ (∀ k, e.D k → k < w.heap.size) ∧ ∀ (S : Nat → Prop) (w1 w2 : World), Chg S w1 w2 → (∀ k, e.D k → ¬ S k) → e.Φ w1 → e.Φ w2
/-- A block known whole. -/
def B (g : Nat) (t : TypeId) (cs : Array Value) : Ent := ⟨fun k => k = g, fun w => Blk w g t cs⟩
theorem B.ok {w : World} {g : Nat} {t : TypeId} {cs : Array Value} (h : Blk w g t cs) : (B g t cs).ok w :=
  ⟨h, fun k hk => by have : k = g := hk; rw [this]; exact h.lt, fun S w1 w2 hc hS h1 => Blk.chg h1 hc (hS g rfl)⟩
theorem Ent.ok.chg {e : Ent} {w w' : World} {S : Nat → Prop} (h : e.ok w) (hc : Chg S w w') (hS : ∀ k, e.D k → ¬ S k) : e.ok w' :=
  ⟨h.2.2 S w w' hc hS h.1, fun k hk => Nat.lt_of_lt_of_le (h.2.1 k hk) hc.size, h.2.2⟩
structure Inv (S : Nat → Prop) (w0 w : World) (H : List Ent) : Prop where
  chg : Chg S w0 w
  ok : ∀ e ∈ H, e.ok w
  own : ∀ e ∈ H, ∀ k, e.D k → S k ∨ w0.heap.size ≤ k
  apart : H.Pairwise fun e e' => ∀ k, e.D k → ¬ e'.D k

section
variable {S : Nat → Prop} {w0 w w' : World} {H : List Ent} {g : Nat} {t : TypeId} {cs : Array Value}
theorem Inv.start (S : Nat → Prop) (w : World) : Inv S w w [] := ⟨Chg.refl S w, by simp, by simp, .nil⟩
theorem Inv.pure (h : Inv S w0 w H) (hp : Pure w w') : Inv S w0 w' H :=
  ⟨h.chg.pure hp, fun e he => (h.ok e he).chg (hp.chg (fun _ => False)) (fun _ _ h => h), h.own, h.apart⟩
theorem Inv.drew (h : Inv S w0 w H) : Inv S w0 w.drew H := h.pure (Pure.refl w).drew
theorem Inv.alloc (h : Inv S w0 w H) (o : Obj) : Inv S w0 (w.alloc o) H := h.pure ((Pure.refl w).alloc o)
/-- What is new. -/
theorem Inv.fresh {e : Ent} (h : Inv S w0 w H) (hp : Pure w w') (he : e.ok w') (hD : ∀ k, e.D k → w.heap.size ≤ k) : Inv S w0 w' (e :: H) := by
  have h' := h.pure hp
  refine ⟨h'.chg, fun x hx => ?_, fun x hx k hk => ?_, ?_⟩
  · rcases List.mem_cons.1 hx with rfl | hx
    · exact he
    · exact h'.ok x hx
  · rcases List.mem_cons.1 hx with rfl | hx
    · exact .inr (Nat.le_trans h.chg.size (hD k hk))
    · exact h'.own x hx k hk
  · refine List.pairwise_cons.2 ⟨fun x hx k hk hxk => ?_, h'.apart⟩
    have h1 := (h.ok x hx).2.1 k hxk
    have h2 := hD k hk
    omega
theorem Inv.box (h : Inv S w0 w H) (t : TypeId) (cs : Array Value) : Inv S w0 (w.alloc (.cells cs t)) (B w.heap.size t cs :: H) :=
  h.fresh ((Pure.refl w).alloc _) (B.ok (Blk.new w t cs)) (fun k hk => by have : k = w.heap.size := hk; omega)
theorem Inv.erase (h : Inv S w0 w H) (i : Nat) : Inv S w0 w (H.eraseIdx i) :=
  ⟨h.chg, fun e he => h.ok e (List.mem_of_mem_eraseIdx he), fun e he => h.own e (List.mem_of_mem_eraseIdx he), h.apart.sublist (List.eraseIdx_sublist ..)⟩
theorem Inv.disj (h : Inv S w0 w H) {i j : Nat} {e e' : Ent} (hi : H[i]? = some e) (hj : H[j]? = some e') (hne : i ≠ j) : ∀ k, e.D k → ¬ e'.D k := by
  obtain ⟨hi', hie⟩ := List.getElem?_eq_some_iff.1 hi
  obtain ⟨hj', hje⟩ := List.getElem?_eq_some_iff.1 hj
  subst hie hje
  rcases Nat.lt_or_gt_of_ne hne with hlt | hlt
  · exact List.pairwise_iff_getElem.1 h.apart i j hi' hj' hlt
  · exact fun k h1 h2 => List.pairwise_iff_getElem.1 h.apart j i hj' hi' hlt k h2 h1
/-- One part turns. -/
theorem Inv.upd {e e' : Ent} (h : Inv S w0 w H) (i : Nat) (hi : H[i]? = some e) (hc : Chg e.D w w') (ho : e'.ok w') (hD : ∀ k, e'.D k → e.D k ∨ w.heap.size ≤ k) : Inv S w0 w' (H.set i e') := by
  have hmem := List.mem_of_getElem? hi
  have hlt : i < H.length := (List.getElem?_eq_some_iff.1 hi).1
  have hk : ∀ (j : Nat) (x : Ent), H[j]? = some x → i ≠ j → ∀ k, x.D k → ¬ e'.D k := fun j x hj hij k h1 h2 => by
    rcases hD k h2 with h3 | h3
    · exact h.disj hi hj hij k h3 h1
    · have := (h.ok x (List.mem_of_getElem? hj)).2.1 k h1; omega
  refine ⟨h.chg.trans' hc fun k hk1 hk2 => ?_, fun x hx => ?_, fun x hx k hxk => ?_, ?_⟩
  · rcases h.own e hmem k hk2 with h1 | h1
    · exact h1
    · omega
  · obtain ⟨j, hj⟩ := List.getElem?_of_mem hx
    rw [List.getElem?_set] at hj
    split at hj
    · rename_i hij
      subst hij
      injection hj with hj
      subst hj
      exact ho
    · rename_i hij
      exact (h.ok x (List.mem_of_getElem? hj)).chg hc (fun k h1 h2 => h.disj hi hj hij k h2 h1)
  · rcases List.mem_or_eq_of_mem_set hx with hx | rfl
    · exact h.own x hx k hxk
    · rcases hD k hxk with h3 | h3
      · exact h.own e hmem k h3
      · exact .inr (Nat.le_trans h.chg.size h3)
  · rw [List.pairwise_iff_getElem]
    intro a b ha hb hab k h1 h2
    rw [List.length_set] at ha hb
    rw [List.getElem_set] at h1 h2
    split at h1
    · rename_i hia
      subst hia
      rw [if_neg (by omega)] at h2
      exact hk b _ (List.getElem?_eq_getElem hb) (by omega) k h2 h1
    · rename_i hia
      split at h2
      · exact hk a _ (List.getElem?_eq_getElem ha) hia k h1 h2
      · exact List.pairwise_iff_getElem.1 h.apart a b ha hb hab k h1 h2
theorem Inv.cell (h : Inv S w0 w H) (i : Nat) (hi : H[i]? = some (B g t cs)) {j : Nat} {v : Value} (hc : cs[j]? = some v) : w.cell? ⟨g, j, none⟩ = some v :=
  (((h.ok _ (List.mem_of_getElem? hi)).1 : Blk w g t cs).cell j).trans hc
theorem Inv.set (h : Inv S w0 w H) (i : Nat) (hi : H[i]? = some (B g t cs)) (j : Nat) (v : Value) : Inv S w0 (w.setCell ⟨g, j, none⟩ v) (H.set i (B g t (cs.setIfInBounds j v))) :=
  h.upd i hi ((Chg.refl (B g t cs).D w).setCell (p := ⟨g, j, none⟩) (.inl rfl) v) (B.ok (((h.ok _ (List.mem_of_getElem? hi)).1 : Blk w g t cs).set_ j v)) (fun _ hk => .inl hk)
theorem Inv.old (h : Inv S w0 w H) {p : Addr} {v : Value} (hv : w0.cell? p = some v) (hS : ¬ S p.block) : w.cell? p = some v :=
  (World.cell?_of_block (h.chg.block p.block (World.block_lt_of_cell? w0 _ hv) hS)).trans hv
theorem Inv.pu (h : Inv (fun _ => False) w0 w H) : Pure w0 w := h.chg.toPure
theorem Inv.oldp (h : Inv (fun _ => False) w0 w H) {p : Addr} {v : Value} (hv : w0.cell? p = some v) : w.cell? p = some v := h.old hv (fun h => h)
theorem Inv.lt (h : Inv S w0 w (B g t cs :: H)) : g < w.heap.size := ((h.ok _ (List.mem_cons_self ..)).1 : Blk w g t cs).lt
end

/-! ### Types -/
def szB (P : Program) (t n : Nat) : Bool := match P.info? t with | some i => i.size == n | none => false
def plainB (P : Program) (t : Nat) : Bool := match P.underlying t with | none => false | some (.struct _) => false | some (.array _ _) => false | _ => true
def aggB (P : Program) (t : Nat) : Bool := match P.underlying t with | some (.struct _) => true | some (.array _ _) => true | _ => false
def fldB (P : Program) (s i off : Nat) : Bool := match P.underlying s with
  | some (.struct fs) => match fs[i]? with
    | some f => (f.offset == off) && (match P.info? f.type with | some j => j.size != 0 | none => false)
    | none => false
  | _ => false
theorem run_size {P : Program} {w : World} {t n : Nat} (h : szB P t n = true) : (sizeOf t).run P w = .ok n w := by
  unfold szB at h
  cases hi : P.info? t with
  | none => simp [hi] at h
  | some i => simp only [hi, beq_iff_eq] at h; simp [sizeOf, typeInfo, hi, h]
theorem run_isAgg_plain {P : Program} {w : World} {t : Nat} (h : plainB P t = true) : (isAgg t).run P w = .ok false w := by
  unfold plainB at h
  cases hi : P.underlying t with
  | none => simp [hi] at h
  | some i => cases i <;> simp [hi] at h <;> simp [isAgg, run_underlying hi]
theorem run_isAgg_agg {P : Program} {w : World} {t : Nat} (h : aggB P t = true) : (isAgg t).run P w = .ok true w := by
  unfold aggB at h
  cases hi : P.underlying t with
  | none => simp [hi] at h
  | some i => cases i <;> simp [hi] at h <;> simp [isAgg, run_underlying hi]

section
variable {P : Program} {ρ : Env} {o : Oper} {w : World} {x y z : Operand} {v : Value}
/-! ### What each operation leaves -/
theorem rMove (ho : o.op = .move x) : Runs P ρ o w (ev ρ x) := by simp [Runs, execOp, ho]
theorem rAsgn (ho : o.op = .assign x) : Runs P ρ o w (ev ρ x) := by simp [Runs, execOp, ho]
theorem rMoveV (ho : o.op = .move x) (hx : ev ρ x = v) : Runs P ρ o w v := hx ▸ rMove ho
theorem rAsgnV (ho : o.op = .assign x) (hx : ev ρ x = v) : Runs P ρ o w v := hx ▸ rAsgn ho
theorem rMoveI {k : IntKind} {n : Int} (ho : o.op = .move x) (hx : ev ρ x = .int k n) : Runs P ρ o w (.int k n) := hx ▸ rMove ho
theorem rMoveB {b : Bool} (ho : o.op = .move x) (hx : ev ρ x = .bool b) : Runs P ρ o w (.bool b) := hx ▸ rMove ho
theorem rMoveS {A : Option Addr} {n c : Nat} (ho : o.op = .move x) (hx : ev ρ x = .slice A n c) : Runs P ρ o w (.slice A n c) := hx ▸ rMove ho
theorem rMoveA {l : Array Value} (ho : o.op = .move x) (hx : ev ρ x = .agg l) : Runs P ρ o w (.agg l) := hx ▸ rMove ho
theorem rMoveT {l : Array Value} (ho : o.op = .move x) (hx : ev ρ x = .tuple l) : Runs P ρ o w (.tuple l) := hx ▸ rMove ho
theorem rMoveP {p : Option Addr} (ho : o.op = .move x) (hx : ev ρ x = .pointer p) : Runs P ρ o w (.pointer p) := hx ▸ rMove ho
theorem rMoveN (ho : o.op = .move x) (hx : ev ρ x = .nilIface) : Runs P ρ o w .nilIface := hx ▸ rMove ho
theorem rMoveE {t : TypeId} {u : Value} (ho : o.op = .move x) (hx : ev ρ x = .iface t u) : Runs P ρ o w (.iface t u) := hx ▸ rMove ho
theorem rMoveF {f : Fn} {a b : Array Value} (ho : o.op = .move x) (hx : ev ρ x = .func f a b) : Runs P ρ o w (.func f a b) := hx ▸ rMove ho
theorem rMoveStr {s : ByteArray} (ho : o.op = .move x) (hx : ev ρ x = .string s) : Runs P ρ o w (.string s) := hx ▸ rMove ho
theorem rMoveM {m : Option Nat} (ho : o.op = .move x) (hx : ev ρ x = .map m) : Runs P ρ o w (.map m) := hx ▸ rMove ho
theorem rAsgnI {k : IntKind} {n : Int} (ho : o.op = .assign x) (hx : ev ρ x = .int k n) : Runs P ρ o w (.int k n) := hx ▸ rAsgn ho
theorem rAsgnB {b : Bool} (ho : o.op = .assign x) (hx : ev ρ x = .bool b) : Runs P ρ o w (.bool b) := hx ▸ rAsgn ho
theorem rAsgnS {A : Option Addr} {n c : Nat} (ho : o.op = .assign x) (hx : ev ρ x = .slice A n c) : Runs P ρ o w (.slice A n c) := hx ▸ rAsgn ho
theorem rAsgnA {l : Array Value} (ho : o.op = .assign x) (hx : ev ρ x = .agg l) : Runs P ρ o w (.agg l) := hx ▸ rAsgn ho
theorem rAsgnT {l : Array Value} (ho : o.op = .assign x) (hx : ev ρ x = .tuple l) : Runs P ρ o w (.tuple l) := hx ▸ rAsgn ho
theorem rAsgnP {p : Option Addr} (ho : o.op = .assign x) (hx : ev ρ x = .pointer p) : Runs P ρ o w (.pointer p) := hx ▸ rAsgn ho
theorem rAsgnN (ho : o.op = .assign x) (hx : ev ρ x = .nilIface) : Runs P ρ o w .nilIface := hx ▸ rAsgn ho
theorem rAsgnE {t : TypeId} {u : Value} (ho : o.op = .assign x) (hx : ev ρ x = .iface t u) : Runs P ρ o w (.iface t u) := hx ▸ rAsgn ho
theorem rAsgnF {f : Fn} {a b : Array Value} (ho : o.op = .assign x) (hx : ev ρ x = .func f a b) : Runs P ρ o w (.func f a b) := hx ▸ rAsgn ho
theorem rAsgnStr {s : ByteArray} (ho : o.op = .assign x) (hx : ev ρ x = .string s) : Runs P ρ o w (.string s) := hx ▸ rAsgn ho
theorem rAsgnM {m : Option Nat} (ho : o.op = .assign x) (hx : ev ρ x = .map m) : Runs P ρ o w (.map m) := hx ▸ rAsgn ho
theorem rPickT (ho : o.op = .pick x y z) (hx : ev ρ x = .bool true) (hy : ev ρ y = v) : Runs P ρ o w v := by simp [Runs, execOp, ho, hx, hy, asBool]
theorem rPickF (ho : o.op = .pick x y z) (hx : ev ρ x = .bool false) (hz : ev ρ z = v) : Runs P ρ o w v := by simp [Runs, execOp, ho, hx, hz, asBool]
theorem rPickTB {b : Bool} (ho : o.op = .pick x y z) (hx : ev ρ x = .bool true) (hy : ev ρ y = .bool b) : Runs P ρ o w (.bool b) := rPickT ho hx hy
theorem rPickFB {b : Bool} (ho : o.op = .pick x y z) (hx : ev ρ x = .bool false) (hz : ev ρ z = .bool b) : Runs P ρ o w (.bool b) := rPickF ho hx hz
theorem rPickB {a b c : Bool} (ho : o.op = .pick x y z) (hx : ev ρ x = .bool a) (hy : ev ρ y = .bool b) (hz : ev ρ z = .bool c) : Runs P ρ o w (.bool (cond a b c)) := by
  cases a
  · exact rPickF ho hx hz
  · exact rPickT ho hx hy
theorem rNot {t : TypeId} {b : Bool} (ho : o.op = .unOp .not t x) (hx : ev ρ x = .bool b) : Runs P ρ o w (.bool (!b)) := by simp [Runs, execOp, ho, hx, Op.unary]
theorem rNotT {t : TypeId} (ho : o.op = .unOp .not t x) (hx : ev ρ x = .bool true) : Runs P ρ o w (.bool false) := rNot ho hx
theorem rNotF {t : TypeId} (ho : o.op = .unOp .not t x) (hx : ev ρ x = .bool false) : Runs P ρ o w (.bool true) := rNot ho hx
theorem rExtr {i : Nat} {l : Array Value} (ho : o.op = .extract x i) (hx : ev ρ x = .tuple l) (hv : l[i]? = some v) : Runs P ρ o w v := by simp [Runs, execOp, ho, hx, Instr.extract, hv]
theorem rIface {t : TypeId} {ds : TypeDesc} (ho : o.op = .makeInterface t x) (ht : P.underlying t = some ds) (hd : (match ds with | .interface _ => false | _ => true) = true) (hx : ev ρ x = v) : Runs P ρ o w (.iface t v) := by
  cases ds <;> simp at hd <;> simp [Runs, execOp, ho, hx, Instr.makeInterface, run_underlying ht]
theorem rFunc {fn : Fn} {a b : List Operand} {l m : List Value} (ho : o.op = .makeFunc fn a.toArray b.toArray) (ha : a.map (ev ρ) = l) (hb : b.map (ev ρ) = m) : Runs P ρ o w (.func fn l.toArray m.toArray) := by simp [Runs, execOp, ho, ha, hb, Instr.makeFunc]
/-! integers -/
section
variable {t t' : TypeId} {a b : Int} {k : IntKind}
theorem rCmp {op : BinOp} {r : Bool} (ho : o.op = .binOp op t x y t') (hx : ev ρ x = .int k a) (hy : ev ρ y = .int k b) (hr : (Op.intCmp op a b).run P w = .ok (.bool r) w) (hop : (match op with | .lss | .leq | .gtr | .geq | .eql | .neq => true | _ => false) = true) : Runs P ρ o w (.bool r) := by
  cases op <;> simp at hop <;> simp [Runs, execOp, ho, hx, hy, eqGuard, binOp, hr]
theorem rLss (ho : o.op = .binOp .lss t x y t') (hx : ev ρ x = .int k a) (hy : ev ρ y = .int k b) : Runs P ρ o w (.bool (decide (a < b))) := rCmp ho hx hy (by simp [Op.intCmp]) rfl
theorem rLeq (ho : o.op = .binOp .leq t x y t') (hx : ev ρ x = .int k a) (hy : ev ρ y = .int k b) : Runs P ρ o w (.bool (decide (a ≤ b))) := rCmp ho hx hy (by simp [Op.intCmp]) rfl
theorem rGtr (ho : o.op = .binOp .gtr t x y t') (hx : ev ρ x = .int k a) (hy : ev ρ y = .int k b) : Runs P ρ o w (.bool (decide (b < a))) := rCmp ho hx hy (by simp [Op.intCmp]) rfl
theorem rGeq (ho : o.op = .binOp .geq t x y t') (hx : ev ρ x = .int k a) (hy : ev ρ y = .int k b) : Runs P ρ o w (.bool (decide (b ≤ a))) := rCmp ho hx hy (by simp [Op.intCmp]) rfl
theorem rEql (ho : o.op = .binOp .eql t x y t') (hx : ev ρ x = .int k a) (hy : ev ρ y = .int k b) : Runs P ρ o w (.bool (decide (a = b))) := rCmp ho hx hy (by simp [Op.intCmp]; rfl) rfl
theorem rNeq (ho : o.op = .binOp .neq t x y t') (hx : ev ρ x = .int k a) (hy : ev ρ y = .int k b) : Runs P ρ o w (.bool (!decide (a = b))) := rCmp ho hx hy (by simp [Op.intCmp]; rfl) rfl
theorem rLssT (ho : o.op = .binOp .lss t x y t') (hx : ev ρ x = .int k a) (hy : ev ρ y = .int k b) (h : a < b) : Runs P ρ o w (.bool true) := by
  have := rLss (P := P) (w := w) ho hx hy
  rwa [show decide (a < b) = true from by simp; omega] at this
theorem rLssF (ho : o.op = .binOp .lss t x y t') (hx : ev ρ x = .int k a) (hy : ev ρ y = .int k b) (h : b ≤ a) : Runs P ρ o w (.bool false) := by
  have := rLss (P := P) (w := w) ho hx hy
  rwa [show decide (a < b) = false from by simp; omega] at this
theorem rLeqT (ho : o.op = .binOp .leq t x y t') (hx : ev ρ x = .int k a) (hy : ev ρ y = .int k b) (h : a ≤ b) : Runs P ρ o w (.bool true) := by
  have := rLeq (P := P) (w := w) ho hx hy
  rwa [show decide (a ≤ b) = true from by simp; omega] at this
theorem rLeqF (ho : o.op = .binOp .leq t x y t') (hx : ev ρ x = .int k a) (hy : ev ρ y = .int k b) (h : b < a) : Runs P ρ o w (.bool false) := by
  have := rLeq (P := P) (w := w) ho hx hy
  rwa [show decide (a ≤ b) = false from by simp; omega] at this
theorem rGtrT (ho : o.op = .binOp .gtr t x y t') (hx : ev ρ x = .int k a) (hy : ev ρ y = .int k b) (h : b < a) : Runs P ρ o w (.bool true) := by
  have := rGtr (P := P) (w := w) ho hx hy
  rwa [show decide (b < a) = true from by simp; omega] at this
theorem rGtrF (ho : o.op = .binOp .gtr t x y t') (hx : ev ρ x = .int k a) (hy : ev ρ y = .int k b) (h : a ≤ b) : Runs P ρ o w (.bool false) := by
  have := rGtr (P := P) (w := w) ho hx hy
  rwa [show decide (b < a) = false from by simp; omega] at this
theorem rGeqT (ho : o.op = .binOp .geq t x y t') (hx : ev ρ x = .int k a) (hy : ev ρ y = .int k b) (h : b ≤ a) : Runs P ρ o w (.bool true) := by
  have := rGeq (P := P) (w := w) ho hx hy
  rwa [show decide (b ≤ a) = true from by simp; omega] at this
theorem rGeqF (ho : o.op = .binOp .geq t x y t') (hx : ev ρ x = .int k a) (hy : ev ρ y = .int k b) (h : a < b) : Runs P ρ o w (.bool false) := by
  have := rGeq (P := P) (w := w) ho hx hy
  rwa [show decide (b ≤ a) = false from by simp; omega] at this
theorem rEqlT (ho : o.op = .binOp .eql t x y t') (hx : ev ρ x = .int k a) (hy : ev ρ y = .int k b) (h : a = b) : Runs P ρ o w (.bool true) := by
  have := rEql (P := P) (w := w) ho hx hy
  rwa [show decide (a = b) = true from by simp; omega] at this
theorem rEqlF (ho : o.op = .binOp .eql t x y t') (hx : ev ρ x = .int k a) (hy : ev ρ y = .int k b) (h : a ≠ b) : Runs P ρ o w (.bool false) := by
  have := rEql (P := P) (w := w) ho hx hy
  rwa [show decide (a = b) = false from by simp; omega] at this
theorem rNeqT (ho : o.op = .binOp .neq t x y t') (hx : ev ρ x = .int k a) (hy : ev ρ y = .int k b) (h : a ≠ b) : Runs P ρ o w (.bool true) := by
  have := rNeq (P := P) (w := w) ho hx hy
  rwa [show (!decide (a = b)) = true from by simp; omega] at this
theorem rNeqF (ho : o.op = .binOp .neq t x y t') (hx : ev ρ x = .int k a) (hy : ev ρ y = .int k b) (h : a = b) : Runs P ρ o w (.bool false) := by
  have := rNeq (P := P) (w := w) ho hx hy
  rwa [show (!decide (a = b)) = false from by simp; omega] at this
theorem wrap64_in {n : Int} (h1 : -9223372036854775808 ≤ n) (h2 : n ≤ 9223372036854775807) : IntKind.i64.wrap n = n := by
  simp [IntKind.wrap, IntKind.signed, IntKind.bits]; omega
theorem rAddW (ho : o.op = .binOp .add t x y t') (hx : ev ρ x = .int k a) (hy : ev ρ y = .int k b) : Runs P ρ o w (.int k (k.wrap (a + b))) := by simp [Runs, execOp, ho, hx, hy, eqGuard, binOp, Op.intArith]
theorem rSubW (ho : o.op = .binOp .sub t x y t') (hx : ev ρ x = .int k a) (hy : ev ρ y = .int k b) : Runs P ρ o w (.int k (k.wrap (a - b))) := by simp [Runs, execOp, ho, hx, hy, eqGuard, binOp, Op.intArith]
theorem rMulW (ho : o.op = .binOp .mul t x y t') (hx : ev ρ x = .int k a) (hy : ev ρ y = .int k b) : Runs P ρ o w (.int k (k.wrap (a * b))) := by simp [Runs, execOp, ho, hx, hy, eqGuard, binOp, Op.intArith]
theorem rAdd (ho : o.op = .binOp .add t x y t') (hx : ev ρ x = .int .i64 a) (hy : ev ρ y = .int .i64 b) (h : -9223372036854775808 ≤ a + b ∧ a + b ≤ 9223372036854775807) : Runs P ρ o w (.int .i64 (a + b)) := by
  have := rAddW (P := P) (w := w) ho hx hy
  rwa [wrap64_in h.1 h.2] at this
theorem rSub (ho : o.op = .binOp .sub t x y t') (hx : ev ρ x = .int .i64 a) (hy : ev ρ y = .int .i64 b) (h : -9223372036854775808 ≤ a - b ∧ a - b ≤ 9223372036854775807) : Runs P ρ o w (.int .i64 (a - b)) := by
  have := rSubW (P := P) (w := w) ho hx hy
  rwa [wrap64_in h.1 h.2] at this
theorem rMul (ho : o.op = .binOp .mul t x y t') (hx : ev ρ x = .int .i64 a) (hy : ev ρ y = .int .i64 b) (h : -9223372036854775808 ≤ a * b ∧ a * b ≤ 9223372036854775807) : Runs P ρ o w (.int .i64 (a * b)) := by
  have := rMulW (P := P) (w := w) ho hx hy
  rwa [wrap64_in h.1 h.2] at this
/-- A counter that goes up. -/
theorem rInc {n : Nat} (ho : o.op = .binOp .add t x y t') (hx : ev ρ x = .int .i64 (n : Int)) (hy : ev ρ y = .int .i64 1) (h : n < 9223372036854775807) : Runs P ρ o w (.int .i64 ((n + 1 : Nat) : Int)) := by
  have := rAdd (P := P) (w := w) ho hx hy (by omega)
  simpa using this
end
/-! interfaces and nil -/
section
variable {t t' : TypeId} {ms : Array (String × TypeId)}
theorem run_equal {x y : Value} {r : Bool} (h : ∀ d, (Op.equalIn (d + 1) t x y).run P w = .ok r w) : (Op.equal t x y).run P w = .ok r w := h 9999
theorem rIfaceNe {T : TypeId} {u : Value} (ho : o.op = .binOp .neq t x y t') (ht : P.underlying t = some (.interface ms)) (hx : ev ρ x = .iface T u) (hy : ev ρ y = .nilIface) : Runs P ρ o w (.bool true) := by
  have h := run_equal (P := P) (w := w) (t := t) (x := .iface T u) (y := .nilIface) (r := false) (fun d => by simp [Op.equalIn, run_underlying ht])
  simp [Runs, execOp, ho, hx, hy, eqGuard, binOp, h]
theorem rIfaceEq {T : TypeId} {u : Value} (ho : o.op = .binOp .eql t x y t') (ht : P.underlying t = some (.interface ms)) (hx : ev ρ x = .iface T u) (hy : ev ρ y = .nilIface) : Runs P ρ o w (.bool false) := by
  have h := run_equal (P := P) (w := w) (t := t) (x := .iface T u) (y := .nilIface) (r := false) (fun d => by simp [Op.equalIn, run_underlying ht])
  simp [Runs, execOp, ho, hx, hy, eqGuard, binOp, h]
theorem rNilNe (ho : o.op = .binOp .neq t x (.const .nilIface) t') (ht : P.underlying t = some (.interface ms)) (hx : ev ρ x = .nilIface) : Runs P ρ o w (.bool false) := by
  have h := run_equal (P := P) (w := w) (t := t) (x := .nilIface) (y := .nilIface) (r := true) (fun d => by simp [Op.equalIn, run_underlying ht])
  simp [Runs, execOp, ho, hx, show ev ρ (.const .nilIface) = .nilIface from rfl, eqGuard, binOp, h]
theorem rNilEq (ho : o.op = .binOp .eql t x (.const .nilIface) t') (ht : P.underlying t = some (.interface ms)) (hx : ev ρ x = .nilIface) : Runs P ρ o w (.bool true) := by
  have h := run_equal (P := P) (w := w) (t := t) (x := .nilIface) (y := .nilIface) (r := true) (fun d => by simp [Op.equalIn, run_underlying ht])
  simp [Runs, execOp, ho, hx, show ev ρ (.const .nilIface) = .nilIface from rfl, eqGuard, binOp, h]
theorem rBoolEql {a b : Bool} (ho : o.op = .binOp .eql t x y t') (ht : P.underlying t = some .bool) (hx : ev ρ x = .bool a) (hy : ev ρ y = .bool b) : Runs P ρ o w (.bool (a == b)) := by
  have h := run_equal (P := P) (w := w) (t := t) (x := .bool a) (y := .bool b) (r := a == b) (fun d => by simp [Op.equalIn, run_underlying ht])
  simp [Runs, execOp, ho, hx, hy, eqGuard, binOp, h]
theorem rBoolNeq {a b : Bool} (ho : o.op = .binOp .neq t x y t') (ht : P.underlying t = some .bool) (hx : ev ρ x = .bool a) (hy : ev ρ y = .bool b) : Runs P ρ o w (.bool (!(a == b))) := by
  have h := run_equal (P := P) (w := w) (t := t) (x := .bool a) (y := .bool b) (r := a == b) (fun d => by simp [Op.equalIn, run_underlying ht])
  simp [Runs, execOp, ho, hx, hy, eqGuard, binOp, h]
theorem rStrEql {a b : ByteArray} (ho : o.op = .binOp .eql t x y t') (hx : ev ρ x = .string a) (hy : ev ρ y = .string b) : Runs P ρ o w (.bool (a.toList == b.toList)) := by
  simp [Runs, execOp, ho, hx, hy, eqGuard, binOp, Op.stringOp]
end
/-! addresses -/
theorem rFld {s i off g j : Nat} (ho : o.op = .fieldAddr s x i) (hf : fldB P s i off = true) (hx : ev ρ x = .pointer (some ⟨g, j, none⟩)) : Runs P ρ o w (.pointer (some ⟨g, j + off, none⟩)) := by
  unfold fldB at hf
  cases hu : P.underlying s with
  | none => simp [hu] at hf
  | some d =>
    cases d <;> simp [hu] at hf
    rename_i fs
    cases hfi : fs[i]? with
    | none => simp [hfi] at hf
    | some f =>
      simp only [hfi] at hf
      cases hi : P.info? f.type with
      | none => simp [hi] at hf
      | some q =>
        simp only [hi, Bool.and_eq_true, beq_iff_eq, bne_iff_ne, ne_eq] at hf
        simp [Runs, execOp, ho, hx, Instr.fieldAt, run_underlying hu, hfi, Instr.sureAddr, fieldPlace, sizeOf, typeInfo, hi, hf.2, ← hf.1, Addr.add]
theorem rFld0 {s i g j : Nat} (ho : o.op = .fieldAddr s x i) (hf : fldB P s i 0 = true) (hx : ev ρ x = .pointer (some ⟨g, j, none⟩)) : Runs P ρ o w (.pointer (some ⟨g, j, none⟩)) := rFld (off := 0) ho hf hx
/-- A field's address in a block that begins there: a numeral. -/
theorem rFldN {s i off g : Nat} (ho : o.op = .fieldAddr s x i) (hf : fldB P s i off = true) (hx : ev ρ x = .pointer (some ⟨g, 0, none⟩)) : Runs P ρ o w (.pointer (some ⟨g, off, none⟩)) := by
  have := rFld (P := P) (w := w) ho hf hx
  rwa [Nat.zero_add] at this
theorem rIdx {t e n c sz g j i : Nat} {k : IntKind} (ho : o.op = .indexAddr t x y) (ht : P.underlying t = some (.slice e)) (hs : szB P e sz = true) (hx : ev ρ x = .slice (some ⟨g, j, none⟩) n c) (hy : ev ρ y = .int k (i : Int)) (hi : i < n) :
    Runs P ρ o w (.pointer (some ⟨g, j + i * sz, none⟩)) := by
  have hi' : (i : Int) < (n : Int) := by omega
  simp [Runs, execOp, ho, hx, hy, Instr.indexAt, asIntOf, run_underlying ht, run_size hs, hi, Addr.add]
theorem rIdx1 {t e n c g j i : Nat} {k : IntKind} (ho : o.op = .indexAddr t x y) (ht : P.underlying t = some (.slice e)) (hs : szB P e 1 = true) (hx : ev ρ x = .slice (some ⟨g, j, none⟩) n c) (hy : ev ρ y = .int k (i : Int)) (hi : i < n) :
    Runs P ρ o w (.pointer (some ⟨g, j + i, none⟩)) := by
  have := rIdx (P := P) (w := w) (sz := 1) ho ht hs hx hy hi
  rwa [Nat.mul_one] at this
/-- At the beginning of a block, an index that is a numeral. -/
theorem rIdx0 {t e n c g i : Nat} {z : Int} {k : IntKind} (ho : o.op = .indexAddr t x y) (ht : P.underlying t = some (.slice e)) (hs : szB P e 1 = true) (hx : ev ρ x = .slice (some ⟨g, 0, none⟩) n c) (hy : ev ρ y = .int k z) (hz : z = (i : Int)) (hi : i < n) :
    Runs P ρ o w (.pointer (some ⟨g, i, none⟩)) := by
  have := rIdx1 (P := P) (w := w) ho ht hs hx (by rw [hy, hz]) hi
  rwa [Nat.zero_add] at this
theorem rLen {t e n c : Nat} {A : Option Addr} (ho : o.op = .call { callee := .builtin .len, args := #[x], argTypes := #[t] }) (ht : P.underlying t = some (.slice e)) (hx : ev ρ x = .slice A n c) : Runs P ρ o w (.int .i64 (n : Int)) := by
  simp [Runs, execOp, ho, resolve, invoke, builtin, Builtin.len_, run_underlying ht, hx, goInt]
theorem rLenStr {t : Nat} {s : ByteArray} (ho : o.op = .call { callee := .builtin .len, args := #[x], argTypes := #[t] }) (ht : P.underlying t = some .string) (hx : ev ρ x = .string s) : Runs P ρ o w (.int .i64 (s.size : Int)) := by
  simp [Runs, execOp, ho, resolve, invoke, builtin, Builtin.len_, run_underlying ht, hx, goInt]
/-! loads -/
theorem rLd {t : Nat} {p : Addr} (ho : o.op = .load t x) (ht : plainB P t = true) (hx : ev ρ x = .pointer (some p)) (hc : w.cell? p = some v) : Runs P ρ o w v := by
  simp [Runs, execOp, ho, hx, Instr.loadAt, Instr.sureAddr, loadVar, run_isAgg_plain ht, hc]
theorem run_loadCellsFrom {b : Nat} {w : World} : ∀ (l : List Value) (j i : Nat) (acc : Array Value), (∀ k u, l[k]? = some u → w.cell? ⟨b, j + (i + k), none⟩ = some u) → (loadCellsFrom ⟨b, j, none⟩ i l.length acc).run P w = .ok (acc ++ l.toArray) w
  | [], j, i, acc, _ => by simp [loadCellsFrom]
  | u :: l, j, i, acc, h => by
    have h0 := h 0 u rfl
    have ih := run_loadCellsFrom l j (i + 1) (acc.push u) (fun k x hk => by have := h (k + 1) x hk; rwa [show i + 1 + k = i + (k + 1) by omega])
    simp only [Nat.add_zero] at h0
    simp [loadCellsFrom, Addr.add_lit, h0, ih]
theorem rLdA {t n b j : Nat} {l : List Value} (ho : o.op = .load t x) (ht : aggB P t = true) (hs : szB P t n = true) (hx : ev ρ x = .pointer (some ⟨b, j, none⟩)) (hn : l.length = n) (hc : ∀ k u, l[k]? = some u → w.cell? ⟨b, j + k, none⟩ = some u) : Runs P ρ o w (.agg l.toArray) := by
  have h1 := run_loadCellsFrom (P := P) (b := b) (w := w) l j 0 #[] (by simpa using hc)
  rw [hn] at h1
  simp [Runs, execOp, ho, hx, Instr.loadAt, Instr.sureAddr, loadVar, run_isAgg_agg ht, run_size hs, loadCells, h1]
theorem rLd2 {t b j : Nat} {a0 a1 : Value} (ho : o.op = .load t x) (ht : aggB P t = true) (hs : szB P t 2 = true) (hx : ev ρ x = .pointer (some ⟨b, j, none⟩)) (h0 : w.cell? ⟨b, j, none⟩ = some a0) (h1 : w.cell? ⟨b, j + 1, none⟩ = some a1) : Runs P ρ o w (.agg #[a0, a1]) :=
  rLdA (l := [a0, a1]) ho ht hs hx rfl (fun k u hk => by match k, hk with | 0, hk => cases hk; exact h0 | 1, hk => cases hk; exact h1)
theorem rLd3 {t b j : Nat} {a0 a1 a2 : Value} (ho : o.op = .load t x) (ht : aggB P t = true) (hs : szB P t 3 = true) (hx : ev ρ x = .pointer (some ⟨b, j, none⟩)) (h0 : w.cell? ⟨b, j, none⟩ = some a0) (h1 : w.cell? ⟨b, j + 1, none⟩ = some a1) (h2 : w.cell? ⟨b, j + 2, none⟩ = some a2) : Runs P ρ o w (.agg #[a0, a1, a2]) :=
  rLdA (l := [a0, a1, a2]) ho ht hs hx rfl (fun k u hk => by match k, hk with | 0, hk => cases hk; exact h0 | 1, hk => cases hk; exact h1 | 2, hk => cases hk; exact h2)
theorem rLd4 {t b j : Nat} {a0 a1 a2 a3 : Value} (ho : o.op = .load t x) (ht : aggB P t = true) (hs : szB P t 4 = true) (hx : ev ρ x = .pointer (some ⟨b, j, none⟩)) (h0 : w.cell? ⟨b, j, none⟩ = some a0) (h1 : w.cell? ⟨b, j + 1, none⟩ = some a1) (h2 : w.cell? ⟨b, j + 2, none⟩ = some a2) (h3 : w.cell? ⟨b, j + 3, none⟩ = some a3) : Runs P ρ o w (.agg #[a0, a1, a2, a3]) :=
  rLdA (l := [a0, a1, a2, a3]) ho ht hs hx rfl (fun k u hk => by match k, hk with | 0, hk => cases hk; exact h0 | 1, hk => cases hk; exact h1 | 2, hk => cases hk; exact h2 | 3, hk => cases hk; exact h3)
/-- A whole block. -/
theorem rLdB {t n b T : Nat} {cs : Array Value} (ho : o.op = .load t x) (ht : aggB P t = true) (hs : szB P t n = true) (hx : ev ρ x = .pointer (some ⟨b, 0, none⟩)) (hn : cs.size = n) (hc : Blk w b T cs) : Runs P ρ o w (.agg cs) := by
  have := rLdA (P := P) (w := w) (l := cs.toList) ho ht hs hx (by simpa using hn) (fun k u hk => by rw [Nat.zero_add, hc.cell]; simpa using hk)
  simpa using this
/-! calls -/
theorem rCall {f : FuncId} {fn : Func} {as : List Operand} {ts : Array TypeId} {vs : List Value} (ho : o.op = .call { callee := .value (.func f), args := as.toArray, argTypes := ts }) (hf : P.funcs[f]? = some fn) (hn : (fn.name == "runtime.NumGoroutine") = false) (hb : fn.body.isNone = false) (hv : as.map (ev ρ) = vs) :
    (execOp (ev ρ) o).run P w = .ok (.enter f vs.toArray) w := by
  simp [execOp, ho, resolve, ev, Deferred.ofValue, invoke, callFunc, hf, hn, hb, hv, -Option.isNone_eq_false_iff, -Option.isNone_iff_eq_none, -beq_iff_eq]
theorem rCallF {f : FuncId} {fn : Func} {z : Operand} {as : List Operand} {ts : Array TypeId} {vs first cap : List Value} (ho : o.op = .call { callee := .value z, args := as.toArray, argTypes := ts }) (hz : ev ρ z = .func (.func f) first.toArray cap.toArray) (hf : P.funcs[f]? = some fn) (hn : (fn.name == "runtime.NumGoroutine") = false) (hb : fn.body.isNone = false) (hv : first ++ as.map (ev ρ) ++ cap = vs) :
    (execOp (ev ρ) o).run P w = .ok (.enter f vs.toArray) w := by
  simp [execOp, ho, resolve, hz, Deferred.ofValue, invoke, callFunc, hf, hn, hb, ← hv, -Option.isNone_eq_false_iff, -Option.isNone_iff_eq_none, -beq_iff_eq]
/-! memory -/
theorem run_box {t : Nat} {u : Value} (ho : o.op = .box t x) (hx : ev ρ x = u) : (execOp (ev ρ) o).run P w = .ok (.value (.pointer (some ⟨w.heap.size, 0, none⟩))) (w.alloc (.cells u.cells t)) := by
  simp [execOp, ho, hx, Instr.box, newVar, newRow]
theorem run_alloc {t : Nat} {u : Value} (ho : o.op = .alloc t) (hz : (P.info? t).bind (·.zero) = some u) : (execOp (ev ρ) o).run P w = .ok (.value (.pointer (some ⟨w.heap.size, 0, none⟩))) (w.alloc (.cells u.cells t)) := by
  cases hi : P.info? t with
  | none => simp [hi] at hz
  | some i =>
    simp only [hi, Option.bind_some] at hz
    simp [execOp, ho, Instr.alloc, zeroValue, typeInfo, hi, hz, newVar, newRow]
end
end Go.Proofs.YtlmpolmalgpodaaDoor
