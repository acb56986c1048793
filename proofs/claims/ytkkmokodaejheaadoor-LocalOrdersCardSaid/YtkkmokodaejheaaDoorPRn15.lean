/- Texts of the proof, merged: Rn5, Rn6, Rn7, Rn8, Rn9, Rn10, Rn11, Rn12, Rn13, Rn14, Rn15. -/
import Derived.Test.YtkkmokodaejheaaDoorPRn4
set_option linter.unusedVariables false
set_option linter.unusedSimpArgs false
set_option linter.unusedSectionVars false
namespace Go.Proofs.YtkkmokodaejheaaDoor
open Go Go.Conc
abbrev At {α β : Type} (π : Ren) (R : α → β → Prop) : Ren → α → β → Prop := fun π' a b => π' = π ∧ R a b
def FH (P : Program) : Prop := ∀ t i z, P.info? t = some i → i.zero = some z → Plain z
section
variable {P : Program} {F : FuncId → Prop} {π : Ren}
theorem SR.at {α β γ δ : Type} {R : α → β → Prop} {Q : Ren → γ → δ → Prop} {s : Sem α} {s' : Sem β} {f : α → Sem γ} {f' : β → Sem δ} (h : SR P F (At π R) π s s') (hf : ∀ a b, R a b → SR P F Q π (f a) (f' b)) :
  SR P F Q π (s >>= f) (s' >>= f') := h.bind fun π' a b _ r => by obtain ⟨e, r⟩ := r; subst e; exact hf a b r
theorem SR.eq {α γ δ : Type} {Q : Ren → γ → δ → Prop} {s s' : Sem α} {f : α → Sem γ} {f' : α → Sem δ} (h : SR P F (At π Eq) π s s') (hf : ∀ a, SR P F Q π (f a) (f' a)) :
  SR P F Q π (s >>= f) (s' >>= f') := h.at fun a b e => e ▸ hf a
theorem SR.mono {α β : Type} {Q Q' : Ren → α → β → Prop} {s : Sem α} {s' : Sem β} (h : SR P F Q π s s') (hq : ∀ π' a b, π.Le π' → Q π' a b → Q' π' a b) : SR P F Q' π s s' := by
 induction h with
 | pure h => exact .pure (hq _ _ _ (Ren.Le.refl _) h)
 | load ha _ ih => exact .load ha fun v v' hv => ih v v' hv hq
 | store ha hv _ ih => exact .store ha hv (ih hq)
 | new ho _ ih => exact .new ho fun π' n n' hle h1 h2 => ih π' n n' hle h1 h2 fun π'' a b h3 => hq π'' a b (hle.trans h3)
 | shape hr _ ih => exact .shape hr fun s => ih s hq
 | freeze ha ho _ ih => exact .freeze ha ho (ih hq)
 | frozen ha _ ih => exact .frozen ha fun b b' hb => ih b b' hb hq
 | frozenR _ ih => exact .frozenR fun b => ih b hq
 | shapeR _ ih => exact .shapeR fun b => ih b hq
 | getObj hr _ ih => exact .getObj hr fun o o' ho => ih o o' ho hq
 | setObj hr ho _ ih => exact .setObj hr ho (ih hq)
 | choose _ ih => exact .choose fun n => ih n hq
 | chooseL t hq' _ ih => exact .chooseL t hq' (ih hq)
 | program _ ih => exact .program (ih hq)
 | room _ ih => exact .room (ih hq)
 | extern _ ih => exact .extern (ih hq)
 | dead h => exact .dead h
theorem Sy {γ : Type} {f : Program → Sem γ} (h : Bc P (f P)) : Bc P (program >>= f) := .program h
theorem FT {γ : Type} {t : TypeId} {f : TypeDesc → Sem γ} (h : ∀ d, Bc P (f d)) : Bc P (underlying t >>= f) := by
 rw [FV]
 refine .program ?_
 cases P.underlying t with
 | some d => exact h d
 | none => exact .halt (.stuck _)
theorem Sz {γ : Type} {t : TypeId} {f : TypeInfo → Sem γ} (h : ∀ d, Bc P (f d)) : Bc P (typeInfo t >>= f) := by
 rw [JB]
 refine .program ?_
 cases P.info? t with
 | some d => exact h d
 | none => exact .halt (.stuck _)
theorem CY {γ : Type} (e : RuntimeError) : Bc P (runtimePanic e : Sem γ) := by
 unfold runtimePanic
 refine Sy ?_
 have hel : ∀ (t : TypeId) (f : TypeId → Sem γ), (∀ e, Bc P (f e)) → Bc P (elemOf t >>= f) := by
  intro t f hf
  have e : elemOf t >>= f = underlying t >>= fun d => (match d with | .pointer e => f e | _ => (Go.stuck "pointer type expected" : Sem TypeId) >>= f) := by
   show ((underlying t).bind _).bind f = (underlying t).bind _
   rw [bind_assoc']
   congr 1
   funext d
   cases d <;> rfl
  rw [e]
  refine FT fun d => ?_
  cases d <;> first | exact hf _ | exact (Be _).bind _
 cases e with
 | bounds x y s c => exact Cw _
 | error m => exact Cw _
 | plain m => exact Cw _
 | nilDeref => exact Cw _
 | typeAssertion i c a m => exact hel _ _ fun e => .new fun n => Cw _
 | panicNil => exact hel _ _ fun e => .new fun n => Cw _
 | unhashable t => exact Cw _
theorem SR.rt {α β : Type} {Q : Ren → α → β → Prop} {e : RuntimeError} {s' : Sem β} : SR P F Q π (runtimePanic e) s' := .dead (CY _)
theorem SR.rtB {α β γ : Type} {Q : Ren → α → β → Prop} {e : RuntimeError} {f : γ → Sem α} {s' : Sem β} : SR P F Q π (runtimePanic e >>= f) s' := .dead ((CY _).bind _)
theorem Ps {γ : Type} (k : IntKind) (x y : Int) (c : BoundsCode) : Bc P (boundsPanic k x y c : Sem γ) := by
 unfold boundsPanic
 split
 ·exact .choose fun n => CY (.bounds (IntKind.i64.wrap x) y (n == 1) c)
 ·exact CY (.bounds (IntKind.i64.wrap x) y (k != .u64) c)
theorem SR.bp {α β : Type} {Q : Ren → α → β → Prop} {k : IntKind} {x y : Int} {c : BoundsCode} {s' : Sem β} : SR P F Q π (boundsPanic k x y c) s' := .dead (Ps _ _ _ _)
theorem BL (t : TypeId) : SR P F (At π Eq) π (sizeOf t) (sizeOf t) := .info fun i hi => .ret ⟨rfl, rfl⟩
theorem Ox (t : TypeId) : SR P F (At π Eq) π (isAgg t) (isAgg t) := .under fun d hd => by cases d <;> exact .ret ⟨rfl, rfl⟩
theorem D8 (hz : FH P) (t : TypeId) : SR P F (At π (VR F π)) π (zeroValue t) (zeroValue t) := .info fun i hi => by
 cases e : i.zero with
 | some z => exact .ret ⟨rfl, hz t i z hi e F π⟩
 | none => exact .unsup
theorem KH (t : TypeId) : SR P F (At π Eq) π (typeStr t) (typeStr t) := .info fun i hi => by
 dsimp only
 split
 ·exact .unsup
 ·exact .ret ⟨rfl, rfl⟩
theorem Ik {v v' : Value} (h : VR F π v v') : SR P F (At π Eq) π (asIntOf v) (asIntOf v') := by
 unfold asIntOf
 split
 ·cases h; exact .ret ⟨rfl, rfl⟩
 ·exact .unsup
 ·exact .stuck
theorem Jc {v v' : Value} (h : VR F π v v') : SR P F (At π Eq) π (asInt v) (asInt v') := (Ik h).eq fun x => .ret ⟨rfl, rfl⟩
theorem Ny {v v' : Value} (h : VR F π v v') : SR P F (At π Eq) π (asBool v) (asBool v') := by
 unfold asBool
 split
 ·cases h; exact .ret ⟨rfl, rfl⟩
 ·exact .stuck
theorem TV {v v' : Value} (h : VR F π v v') : SR P F (At π (AR (VR F π))) π (asAgg v) (asAgg v') := by
 unfold asAgg
 split
 ·cases h with
  | agg h1 h2 => exact .ret ⟨rfl, h1, h2⟩
 ·exact .stuck
theorem Il {v v' : Value} (h : VR F π v v') : SR P F (At π (AdR π)) π (asAddr v) (asAddr v') := by
 unfold asAddr
 split
 ·cases h with
  | ptr h => exact .ret ⟨rfl, h⟩
 ·exact .rt
 ·exact .stuck
theorem Ih {v v' : Value} (h : VR F π v v') : SR P F (At π (AdR π)) π (Instr.sureAddr v) (Instr.sureAddr v') := by
 unfold Instr.sureAddr
 split
 ·cases h with
  | ptr h => exact .ret ⟨rfl, h⟩
 ·exact .stuck
theorem Fs {a a' : Addr} (ha : AdR π a a') : ∀ (n i : Nat) {c c' : Array Value}, AR (VR F π) c c' → SR P F (At π (AR (VR F π))) π (loadCellsFrom a i n c) (loadCellsFrom a' i n c')
 | 0, _, _, _, h => .ret ⟨rfl, h⟩
 | n + 1, i, c, c', h => .loads (ha.add i) fun v v' hv => Fs ha n (i + 1) (h.push hv)
theorem Es {a a' : Addr} (ha : AdR π a a') (n : Nat) : SR P F (At π (AR (VR F π))) π (loadCells a n) (loadCells a' n) := Fs ha n 0 .nil
theorem WG {m : Mode} {a a' : Addr} (ha : AdR π a a') : SR P F (At π (VR F π)) π (load a m) (load a' m) := .load ha fun v v' hv => .pure ⟨rfl, hv⟩
theorem EF (t : TypeId) {a a' : Addr} (ha : AdR π a a') : SR P F (At π (VR F π)) π (loadVar t a) (loadVar t a') := by
 refine (Ox t).eq fun b => ?_
 cases b with
 | true => exact (BL t).eq fun n => (Es ha n).at fun c c' h => .ret ⟨rfl, .agg' h⟩
 | false => exact WG ha
theorem CE {a a' : Addr} (ha : AdR π a a') : ∀ {l l' : List Value} (i : Nat), LR (VR F π) l l' → SR P F (At π fun _ _ => True) π (storeCells a l i) (storeCells a' l' i)
 | [], [], _, .nil => .ret ⟨rfl, trivial⟩
 | v :: l, v' :: l', i, .cons h t => .store (ha.add i) h (CE ha (i + 1) t)
theorem Ou (t : TypeId) {a a' : Addr} (ha : AdR π a a') {v v' : Value} (hv : VR F π v v') : SR P F (At π fun _ _ => True) π (storeVar t a v) (storeVar t a' v') := by
 refine (BL t).eq fun n => ?_
 have hc := hv.cells
 rw [hc.1]
 split
 ·exact .stuckB
 ·exact CE ha 0 hc.lr
def Aaz : Ren → Addr → Addr → Prop := fun π a a' => AdR π a a' ∧ π.own a.block
theorem Dt (e : TypeId) {c c' : Array Value} (h : AR (VR F π) c c') : SR P F Aaz π (newRow e c) (newRow e c') :=
 .news (.cells e _ h) fun π' n n' hle h1 h2 => .ret ⟨⟨h1, rfl, rfl⟩, h2⟩
theorem Mo (t : TypeId) {v v' : Value} (h : VR F π v v') : SR P F Aaz π (newVar t v) (newVar t v') := Dt t h.cells
theorem Er (t : TypeId) {c c' : Array Value} (h : AR (VR F π) c c') (o : Nat) : SR P F (At π (VR F π)) π (part t c o) (part t c' o) := by
 refine (Ox t).eq fun b => ?_
 cases b with
 | true => exact (BL t).eq fun n => .ret ⟨rfl, .agg' (h.extract _ _)⟩
 | false =>
  simp only [Bool.false_eq_true, if_false]
  rcases e : c[o]? with _ | x
  ·exact .stuck
  ·obtain ⟨y, hy, hr⟩ := h.get e
   rw [hy]; exact .ret ⟨rfl, hr⟩
theorem Mm {r r' : Nat} (hr : π.to r = some r') : SR P F (At π fun a b => a = none ∧ b = none) π (viewAt r) (viewAt r') := by
 refine .shapes hr fun s => ?_
 cases s with
 | some x => exact .ret ⟨rfl, rfl, rfl⟩
 | none => exact .gets hr fun o o' ho => by cases ho <;> exact .ret ⟨rfl, rfl, rfl⟩
theorem JJ {r r' : Nat} (hr : π.to r = some r') : SR P F (At π (OR fun a b => AdR π a.1 b.1 ∧ a.2 = b.2)) π (numberAt r) (numberAt r') := by
 refine .shapes hr fun s => ?_
 cases s with
 | some x => exact .ret ⟨rfl, .none⟩
 | none => exact .gets hr fun o o' ho => by cases ho <;> first | exact .ret ⟨rfl, .none⟩ | exact .ret ⟨rfl, .some ⟨‹_›, rfl⟩⟩
theorem BH {a a' : Addr} (ha : AdR π a a') : SR P F (At π fun x y => AdR π x.1 y.1 ∧ x.2 = y.2) π (behindNumber a) (behindNumber a') :=
 (JJ ha.1).at fun x y h => .ret ⟨rfl, h.getD ⟨ha, rfl⟩⟩
theorem Fq {a a' : Addr} (ha : AdR π a a') : SR P F (At π fun _ _ => True) π (noView a) (noView a') :=
 (Mm ha.1).at fun x y h => by obtain ⟨rfl, rfl⟩ := h; exact .ret ⟨rfl, trivial⟩
theorem Oz {a a' : Addr} (ha : AdR π a a') (l : Bool) : SR P F (fun π => VR F π) π (asNumber a l) (asNumber a' l) :=
 .news (.number l ha) fun π' n n' hle h1 h2 => .ret (.ptr ⟨h1, rfl, rfl⟩)
theorem Ii {a a' : Addr} (ha : AdR π a a') : SR P F (At π fun b b' => b' = true → b = true) π (stringish a) (stringish a') := by
 refine .frozens ha fun b b' hb => ?_
 cases b with
 | true =>
  cases b' with
  | true => exact .ret ⟨rfl, fun _ => rfl⟩
  | false =>
   simp only [Bool.false_eq_true, if_false, if_true]
   refine .shapeR fun s => ?_
   cases s with
   | some x => exact .frozenR fun c => .pure ⟨rfl, fun _ => rfl⟩
   | none => exact .ret ⟨rfl, fun _ => rfl⟩
 | false =>
  cases b' with
  | true => exact absurd (hb rfl) (by simp)
  | false =>
   refine .shapes ha.1 fun s => ?_
   cases s with
   | some x => exact .frozen ⟨ha.1, rfl, rfl⟩ fun c c' hc => .pure ⟨rfl, hc⟩
   | none => exact .ret ⟨rfl, by simp⟩
theorem JK {a a' b b' : Addr} (ha : AdR π a a') (hb : AdR π b b') : SR P F (At π fun b b' => b' = true → b = true) π (mayBeOne a b) (mayBeOne a' b') := by
 refine (Ii ha).at fun sa sa' h1 => (Ii hb).at fun sb sb' h2 => ?_
 have hn : ∀ {x x' : Addr}, AdR π x x' → SR P F (At π Eq) π (do pure ((← shape x.block) matches some (_, 0)) : Sem Bool) (do pure ((← shape x'.block) matches some (_, 0))) := fun hx => .shapes hx.1 fun s => .ret ⟨rfl, rfl⟩
 refine (hn ha).eq fun na => (hn hb).eq fun nb => .ret ⟨rfl, ?_⟩
 cases sa <;> cases sb <;> cases sa' <;> cases sb' <;> simp_all
theorem JI {a a' b b' : Addr} (ha : AdR π a a') (hb : AdR π b b') : SR P F (At π Eq) π (sameAddr a b) (sameAddr a' b') := by
 unfold sameAddr
 have h1 : (a'.block == b'.block) = (a.block == b.block) := by rw [Bool.eq_iff_iff]; simpa using ha.block_iff hb
 have h2 : (a' == b') = (a == b) := by rw [Bool.eq_iff_iff]; simpa using ha.eq_iff hb
 rw [h1]
 split
 ·exact .ret ⟨rfl, h2.symm⟩
 ·refine .frozens ha fun fa fa' e1 => .frozens hb fun fb fb' e2 => ?_
  by_cases hf : (fa && fb) = true
  ·rw [if_pos hf]; exact .unsupB
  ·have hf' : ¬ (fa' && fb') = true := by
    intro e; simp only [Bool.and_eq_true] at e hf; exact hf ⟨e1 e.1, e2 e.2⟩
   rw [if_neg hf, if_neg hf']
   refine (Fq ha).at fun _ _ _ => (Fq hb).at fun _ _ _ => (JK ha hb).at fun m m' hm => ?_
   cases m with
   | true =>
    cases m' with
    | true => exact .chooses fun n => .ret ⟨rfl, rfl⟩
    | false => exact .chooseL 0 rfl (.ret ⟨rfl, rfl⟩)
   | false =>
    cases m' with
    | true => exact absurd (hm rfl) (by simp)
    | false => exact .ret ⟨rfl, rfl⟩
theorem Dy {a a' b b' : Option Addr} (ha : OR (AdR π) a a') (hb : OR (AdR π) b b') : SR P F (At π Eq) π (samePointer a b) (samePointer a' b') := by
 cases ha <;> cases hb <;> first | exact JI ‹_› ‹_› | exact .ret ⟨rfl, rfl⟩
theorem DU {a a' : Addr} (ha : AdR π a a') : SR P F (At π Eq) π (byteOf a) (byteOf a') := by
 unfold byteOf
 rw [ha.2.2]
 cases a.spot with
 | some s => exact .ret ⟨rfl, rfl⟩
 | none =>
  refine .prog ((Fq ha).at fun _ _ _ => .shapes ha.1 fun s => ?_)
  cases s with
  | none => exact .stuck
  | some x =>
   dsimp only
   rw [ha.2.1]
   split
   ·exact .ret ⟨rfl, rfl⟩
   ·split
    ·exact .ret ⟨rfl, rfl⟩
    ·exact .stuck
theorem RO {a a' : Addr} (ha : AdR π a a') (c b : Nat) : SR P F (At π (AdR π)) π (partAt a c b) (partAt a' c b) := by
 unfold partAt
 refine (DU ha).eq fun n => ?_
 have hp : AdR π { block := a.block, off := a.off + c } { block := a'.block, off := a'.off + c } := ⟨ha.1, by simp [ha.2.1], rfl⟩
 refine (DU hp).eq fun m => .ret ⟨rfl, ?_⟩
 split
 ·exact hp
 ·exact ⟨ha.1, by simp [ha.2.1], rfl⟩
theorem Fa {a a' : Addr} (ha : AdR π a a') (f : Field) : SR P F (At π (AdR π)) π (fieldPlace a f) (fieldPlace a' f) := by
 unfold fieldPlace
 refine (BL _).eq fun n => ?_
 split
 ·exact RO ha _ _
 ·exact .ret ⟨rfl, ha.add _⟩
end
section
variable {P : Program} {F : FuncId → Prop} {π : Ren}
theorem SR.forL {γ δ : Type} {g g' : γ → δ → Sem (ForInStep δ)} (h : ∀ a b, SR P F (At π Eq) π (g a b) (g' a b)) : ∀ (l : List γ) (b : δ), SR P F (At π Eq) π (forIn l b g) (forIn l b g')
 | [], b => by rw [List.forIn_nil, List.forIn_nil]; exact .ret ⟨rfl, rfl⟩
 | a :: l, b => by
  rw [List.forIn_cons, List.forIn_cons]
  refine (h a b).eq fun s => ?_
  cases s with
  | done b => exact .ret ⟨rfl, rfl⟩
  | yield b => exact SR.forL h l b
theorem SR.forA {γ δ : Type} {g g' : γ → δ → Sem (ForInStep δ)} (h : ∀ a b, SR P F (At π Eq) π (g a b) (g' a b)) (l : Array γ) (b : δ) : SR P F (At π Eq) π (forIn l b g) (forIn l b g') := by
 rw [← Array.forIn_toList, ← Array.forIn_toList]; exact SR.forL h _ _
theorem SR.forR {δ : Type} {g g' : Nat → δ → Sem (ForInStep δ)} (h : ∀ a b, SR P F (At π Eq) π (g a b) (g' a b)) (r : Std.Legacy.Range) (b : δ) : SR P F (At π Eq) π (forIn r b g) (forIn r b g') := by
 rw [Std.Legacy.Range.forIn_eq_forIn_range', Std.Legacy.Range.forIn_eq_forIn_range']; exact SR.forL h _ _
theorem AdR.glob {G : Nat} (hG : G ≤ π.base) {a a' : Addr} (h : AdR π a a') : (a'.block < G) = (a.block < G) := by
 apply propext
 constructor
 ·intro e; have := π.low _ _ h.1 (.inr (by omega)); omega
 ·intro e; have := π.low _ _ h.1 (.inl (by omega)); omega
theorem AdR.beq {a a' b b' : Addr} (h : AdR π a a') (k : AdR π b b') : (a' == b') = (a == b) := by rw [Bool.eq_iff_iff]; simpa using h.eq_iff k
theorem AdR.bbeq {a a' b b' : Addr} (h : AdR π a a') (k : AdR π b b') : (a'.block == b'.block) = (a.block == b.block) := by rw [Bool.eq_iff_iff]; simpa using h.block_iff k
theorem FL (hG : P.globals.size ≤ π.base) : ∀ (d : Nat) (t : TypeId) {x x' y y' : Value}, VR F π x x' → VR F π y y' → SR P F (At π Eq) π (Op.equalIn d t x y) (Op.equalIn d t x' y')
 | 0, _, _, _, _, _, _, _ => .unsup
 | d + 1, t, x, x', y, y', hx, hy => by
  unfold Op.equalIn
  refine .under fun ty hty => ?_
  split
  all_goals try exact .stuck
  all_goals try exact .unsup
  all_goals try (cases hx; cases hy; exact .ret ⟨rfl, rfl⟩; done)
  case h_2 =>
   cases hx; cases hy
   dsimp only
   split
   ·exact .ret ⟨rfl, rfl⟩
   ·exact .stuck
  case h_5 =>
   cases hx with
   | ptr ha => cases hy with
    | ptr hb =>
     refine (BH ha).at fun a a' h1 => (BH hb).at fun b b' h2 => .prog ?_
     have e1 := h1.1.bbeq h2.1
     have e2 := h1.1.beq h2.1
     have e3 : decide (a'.1.block < P.globals.size) = decide (a.1.block < P.globals.size) := by simp only [h1.1.glob hG]
     simp only [e1, e2, e3]
     split
     ·exact (DU h1.1).eq fun n => (DU h2.1).eq fun m => .ret ⟨rfl, rfl⟩
     ·refine .info fun i hi => ?_
      split
      ·split
       ·exact .ret ⟨rfl, rfl⟩
       ·exact .unsup
      ·exact .unsup
  case h_8 => cases hx
  case h_9 => cases hx
  case h_11 =>
   cases hx
   cases hy with
   | ptr0 => exact .ret ⟨rfl, rfl⟩
   | ptr h => exact .ret ⟨rfl, rfl⟩
  case h_12 =>
   cases hy
   cases hx with
   | ptr0 => simp_all
   | ptr h => exact .ret ⟨rfl, rfl⟩
  case h_13 =>
   cases hx with
   | ptr ha => cases hy with
    | ptr hb =>
     refine (BL _).eq fun n => ?_
     have e2 := ha.beq hb
     split
     ·exact JI ha hb
     ·simp only [e2]
      split
      ·exact .ret ⟨rfl, rfl⟩
      ·exact .chooses fun n => .ret ⟨rfl, rfl⟩
  case h_14 =>
   cases hx with
   | ptr0 => cases hy with
    | ptr0 => exact Dy .none .none
    | ptr h => exact Dy .none (.some h)
   | ptr h => cases hy with
    | ptr0 => exact Dy (.some h) .none
    | ptr h' => exact Dy (.some h) (.some h')
  case h_15 =>
   cases hx with
   | chan0 => cases hy with
    | chan0 => exact .ret ⟨rfl, rfl⟩
    | chan h => exact .ret ⟨rfl, rfl⟩
   | chan h => cases hy with
    | chan0 => exact .ret ⟨rfl, rfl⟩
    | chan h' =>
     refine .ret ⟨rfl, ?_⟩
     rw [Bool.eq_iff_iff]
     simp only [beq_iff_eq, Option.some.injEq]
     constructor
     ·intro e; subst e; exact Option.some.inj (h.symm.trans h')
     ·intro e; subst e; exact π.inj _ _ _ h h'
  case h_19 =>
   cases hx with
   | iface t1 ha => cases hy with
    | iface t2 hb =>
     dsimp only
     split
     ·exact .ret ⟨rfl, rfl⟩
     ·refine .info fun i hi => ?_
      split
      ·refine .prog (.prog ?_)
       split
       ·exact .unsupB
       ·exact (KH _).eq fun n => .rt
      ·exact FL hG d _ ha hb
  case h_20 =>
   cases hx with
   | agg h1 h2 => cases hy with
    | agg h3 h4 =>
     refine .prog ?_
     split
     ·exact .unsupB
     ·refine SR.eq (SR.forA (fun f b => ?_) _ _) fun r => ?_
      ·split
       ·exact (Er _ ⟨h1, h2⟩ _).at fun u u' hu => (Er _ ⟨h3, h4⟩ _).at fun y y' hy => (FL hG d _ hu hy).eq fun q => by cases q <;> exact .ret ⟨rfl, rfl⟩
       ·exact .ret ⟨rfl, rfl⟩
      ·obtain ⟨r, u⟩ := r; cases r <;> exact .ret ⟨rfl, rfl⟩
  case h_21 =>
   cases hx with
   | agg h1 h2 => cases hy with
    | agg h3 h4 =>
     refine (BL _).eq fun n => SR.eq (SR.forR (fun f b => ?_) _ _) fun r => ?_
     ·exact (Er _ ⟨h1, h2⟩ _).at fun u u' hu => (Er _ ⟨h3, h4⟩ _).at fun y y' hy => (FL hG d _ hu hy).eq fun q => by cases q <;> exact .ret ⟨rfl, rfl⟩
     ·obtain ⟨r, u⟩ := r; cases r <;> exact .ret ⟨rfl, rfl⟩
  case h_22 => cases hx; cases hy <;> exact .ret ⟨rfl, rfl⟩
  case h_23 =>
   cases hy
   cases hx with
   | slice0 => simp_all
   | slice l c h => exact .ret ⟨rfl, rfl⟩
  case h_24 => cases hx; cases hy <;> exact .ret ⟨rfl, rfl⟩
  case h_25 =>
   cases hy
   cases hx with
   | map0 => simp_all
   | map h => exact .ret ⟨rfl, rfl⟩
  case h_27 => cases hx; cases hy <;> exact .ret ⟨rfl, rfl⟩
  case h_28 => cases hy; cases hx <;> exact .ret ⟨rfl, rfl⟩
theorem EG (hG : P.globals.size ≤ π.base) (t : TypeId) {x x' y y' : Value} (hx : VR F π x x') (hy : VR F π y y') : SR P F (At π Eq) π (Op.equal t x y) (Op.equal t x' y') := FL hG _ _ hx hy
def XI (P : Program) (t : TypeId) : Bool := !P.eqGuardType P.depth t || match P.underlying t with
 | some (.struct _) | some (.array _ _) => false
 | _ => true
theorem TQ : ∀ (d : Nat) (t : TypeId), SR P F (At π Eq) π (Op.eqGuardIn d t .nilIface .nilIface) (Op.eqGuardIn d t .nilIface .nilIface)
 | 0, _ => .unsup
 | d + 1, t => by
  unfold Op.eqGuardIn
  refine .under fun ty hty => ?_
  cases ty <;> exact .ret ⟨rfl, rfl⟩
theorem TR (t : TypeId) (ht : (match P.underlying t with
 | some (.struct _) | some (.array _ _) => false
 | _ => true) = true) (xs ys xs' ys' : Array Value) : ∀ (d : Nat), SR P F (At π Eq) π (Op.eqGuardIn d t (.agg xs) (.agg ys)) (Op.eqGuardIn d t (.agg xs') (.agg ys'))
 | 0 => .unsup
 | d + 1 => by
  unfold Op.eqGuardIn
  refine .under fun ty hty => ?_
  rw [hty] at ht
  cases ty <;> first | exact .ret ⟨rfl, rfl⟩ | exact absurd ht (by simp)
theorem P9 (op : BinOp) (t : TypeId) (x y : Operand) {a a' b b' : Value} (ha : VR F π a a') (hb : VR F π b b') (ht : XI P t = true) (ha0 : a ≠ .tuple #[]) (hb0 : b ≠ .tuple #[]) : SR P F (At π fun _ _ => True) π (eqGuard op t x y a b) (eqGuard op t x y a' b') := by
 unfold eqGuard
 cases op
 all_goals try exact .ret ⟨rfl, trivial⟩
 all_goals
  simp only [Bool.not_true, Bool.false_eq_true, if_false]
  split
  ·cases ha; cases hb
   cases x <;> cases y
   all_goals
    simp only [Bool.or_self, Bool.true_or, Bool.or_true, Bool.false_eq_true, if_false, if_true]
    first
     | exact .ret ⟨rfl, trivial⟩
     | exact (TQ _ _).eq fun q => by cases q <;> first | exact .ret ⟨rfl, trivial⟩ | exact .unsup
  ·cases ha with
   | agg h1 h2 => cases hb with
    | agg h3 h4 =>
     refine .prog (.prog ?_)
     unfold XI at ht
     rw [Bool.or_eq_true] at ht
     split
     ·exact .ret ⟨rfl, trivial⟩
     ·next hg => exact (TR t (ht.resolve_left hg) _ _ _ _ _).eq fun q => by cases q <;> first | exact .ret ⟨rfl, trivial⟩ | exact .unsup
  ·rename_i n1 n2
   split
   ·cases ha with
    | hole => exact absurd rfl ha0
    | _ => cases hb with
     | hole => exact absurd rfl hb0
     | _ => exact absurd rfl (n1 rfl)
   ·cases ha with
    | hole => exact absurd rfl ha0
    | _ => cases hb with
     | hole => exact absurd rfl hb0
     | _ => exact absurd rfl (n2 _ _ rfl)
   ·exact .ret ⟨rfl, trivial⟩
theorem Nb : ∀ (d : Nat) (t : TypeId) (y : Value), Bc P (Op.equalIn d t (.tuple #[]) y) ∧ Bc P (Op.equalIn d t y (.tuple #[]))
 | 0, _, _ => ⟨BQ (by simp), BQ (by simp)⟩
 | d + 1, t, y => by
  constructor <;> unfold Op.equalIn
  all_goals
   refine FT fun ty => ?_
   split <;> first
    | exact Be _
    | (refine BQ ?_; simp; done)
    | contradiction
    | simp_all
theorem IQ (op : BinOp) (t : TypeId) (y : Value) : Bc P (binOp op t (.tuple #[]) y) ∧ Bc P (binOp op t y (.tuple #[])) := by
 have h := Nb (P := P) Op.maxDepth t y
 constructor <;> unfold binOp
 ·split <;> first | exact Be _ | exact Bc.bind h.1 _ | (refine BQ ?_; simp; done) | contradiction | simp_all
 ·split <;> first | exact Be _ | exact Bc.bind h.2 _ | (refine BQ ?_; simp; done) | contradiction | simp_all
inductive JE (P : Program) : Sem Value → Prop where
 | pure {v : Value} : Plain v → JE P (.pure v)
 | choose {q : Question} {k : Nat → Sem Value} : (∀ n, JE P (k n)) → JE P (.choose q k)
 | dead {s : Sem Value} : Bc P s → JE P s
theorem Gy {s : Sem Value} (h : JE P s) : SR P F (At π (VR F π)) π s s := by
 induction h with
 | pure h => exact .pure ⟨rfl, h F π⟩
 | choose _ ih => exact .choose ih
 | dead h => exact .dead h
theorem GI (k : IntKind) (n : Int) : Plain (.int k n) := fun _ _ => .int k n
theorem KY (b : Bool) : Plain (.bool b) := fun _ _ => .bool b
theorem NJ (b : ByteArray) : Plain (.string b) := fun _ _ => .string b
theorem KA (op : BinOp) (k : IntKind) (x y : Int) : JE P (Op.intArith op k x y) := by
 unfold Op.intArith; split <;> first | exact .pure (GI _ _) | exact .dead (Be _)
theorem Tv (op : BinOp) (k : IntKind) (x y : Int) : JE P (Op.intDiv op k x y) := by
 unfold Op.intDiv; split
 ·exact .dead (CY _)
 ·split <;> first | exact .pure (GI _ _) | exact .dead (Be _)
theorem Mg (op : BinOp) (k : IntKind) (x y : Int) : JE P (Op.intBits op k x y) := by
 unfold Op.intBits; dsimp only; split <;> first | exact .pure (GI _ _) | exact .dead (Be _)
theorem Tw (op : BinOp) (x y : Int) : JE P (Op.intCmp op x y) := by
 unfold Op.intCmp; split <;> first | exact .pure (KY _) | exact .dead (Be _)
theorem Kz (op : BinOp) (k : IntKind) (x : Int) (yk : IntKind) (y : Int) : JE P (Op.shift op k x yk y) := by
 unfold Op.shift; split
 ·exact .dead (CY _)
 ·dsimp only; split <;> first | exact .pure (GI _ _) | exact .dead (Be _)
theorem Ky (op : BinOp) (x y : ByteArray) : JE P (Op.stringOp op x y) := by
 unfold Op.stringOp; dsimp only; split
 ·split
  ·exact .dead (BQ (by simp))
  ·exact .pure (NJ _)
 all_goals first | exact .pure (KY _) | exact .dead (Be _)
theorem Ie (t : TypeId) {a a' : Addr} (ha : AdR π a a') {n n' : Value} (hn : VR F π n n') : SR P F (At π fun v v' => VR F π v v' ∧ ∃ b, v = .pointer (some b)) π (Builtin.unsafeAdd_ #[] t #[.pointer (some a), n]) (Builtin.unsafeAdd_ #[] t #[.pointer (some a'), n']) := by
 unfold Builtin.unsafeAdd_
 refine (Jc hn).eq fun n => ?_
 dsimp only
 split
 ·refine (Mm ha.1).at fun u u' hu => ?_
  obtain ⟨rfl, rfl⟩ := hu
  exact .ret ⟨rfl, .ptr ha, _, rfl⟩
 ·split
  ·exact .unsupB
  ·refine .shapes ha.1 fun s => ?_
   cases s with
   | none => exact .unsup
   | some s =>
    refine .prog ?_
    rw [ha.2.1]
    split
    ·exact .ret ⟨rfl, .ptr ⟨ha.1, rfl, ha.2.2⟩, _, rfl⟩
    ·exact .unsup
theorem E9 (t : TypeId) {x x' n n' : Value} (hx : VR F π x x') (hn : VR F π n n') : SR P F (At π (VR F π)) π (Builtin.unsafeAdd_ #[] t #[x, n]) (Builtin.unsafeAdd_ #[] t #[x', n']) := by
 cases hx with
 | ptr h => exact (Ie t h hn).mono fun π' a b _ r => ⟨r.1, r.2.1⟩
 | ptr0 =>
  unfold Builtin.unsafeAdd_
  refine (Jc hn).eq fun n => ?_
  dsimp only
  split
  ·exact .unsup
  ·split
   ·exact .unsupB
   ·exact .unsup
 | _ => exact .stuck
theorem Bh {s s' : Sem Value} (h : SR P F (At π (VR F π)) π s s') : SR P F (fun π => VR F π) π s s' := h.mono fun π' a b _ r => by obtain ⟨e, r⟩ := r; subst e; exact r
theorem KJ (t : TypeId) {x x' y y' : Value} (hx : VR F π x x') (hy : VR F π y y') : SR P F (fun π => VR F π) π (movedNumber t x y) (movedNumber t x' y') := by
 unfold movedNumber
 refine .under fun d hd => ?_
 dsimp only
 split
 ·exact .unsupB
 ·simp only [Bool.false_eq_true, if_false]
  cases hx with
  | ptr hx =>
   refine (BH hx).at fun p p' hp => ?_
   obtain ⟨a1, l⟩ := p; obtain ⟨a2, l'⟩ := p'
   obtain ⟨h1, h2⟩ := hp
   dsimp only at h1 h2 ⊢
   subst h2
   refine (Ie t h1 hy).at fun v v' hv => ?_
   obtain ⟨hv, b, rfl⟩ := hv
   cases hv with
   | ptr hv => exact Oz hv _
  | ptr0 => exact Bh (E9 t .ptr0 hy)
  | _ => exact .stuck
theorem RQ (t : TypeId) {x x' y y' : Value} (hx : VR F π x x') (hy : VR F π y y') : SR P F (At π (VR F π)) π (movedPointer t x y) (movedPointer t x' y') := by
 unfold movedPointer
 cases hx with
 | ptr hx =>
  refine (JJ hx.1).at fun u u' hu => ?_
  cases hu with
  | none => exact E9 t (.ptr hx) hy
  | some h => exact .unsupB
 | ptr0 => exact E9 t .ptr0 hy
 | _ => exact .stuck
theorem Ig (hG : P.globals.size ≤ π.base) {a a' b b' : Addr} (ha : AdR π a a') (hb : AdR π b b') : SR P F (At π Eq) π (Op.twoPlaces a b) (Op.twoPlaces a' b') := by
 unfold Op.twoPlaces
 have e1 := ha.bbeq hb
 have e3 : decide (a'.block ≥ P.globals.size) = decide (a.block ≥ P.globals.size) := by
  have := ha.glob hG
  rw [decide_eq_decide]
  constructor
  ·intro h; exact Nat.le_of_not_lt fun h' => by rw [← this] at h'; omega
  ·intro h; exact Nat.le_of_not_lt fun h' => by rw [this] at h'; omega
 refine .prog ?_
 simp only [bne, e1, e3]
 split
 ·exact .unsupB
 ·exact (DU ha).eq fun n => (DU hb).eq fun m => .ret ⟨rfl, rfl⟩
theorem FM (hG : P.globals.size ≤ π.base) (op : BinOp) {a a' b b' : Addr} (ha : AdR π a a') (hb : AdR π b b') : SR P F (At π (VR F π)) π (Op.addrCmp op a b) (Op.addrCmp op a' b') := by
 refine (Ig hG ha hb).eq fun n => ?_
 cases op <;> first | exact .ret ⟨rfl, .bool _⟩ | exact .unsup
theorem Qd (hG : P.globals.size ≤ π.base) (k : IntKind) {a a' b b' : Addr} (ha : AdR π a a') (hb : AdR π b b') : SR P F (At π (VR F π)) π (Op.addrSub k a b) (Op.addrSub k a' b') :=
 (Ig hG ha hb).eq fun n => .ret ⟨rfl, .int _ _⟩
theorem Hf (k : IntKind) {a a' : Addr} (ha : AdR π a a') (n : Int) : SR P F (At π (VR F π)) π (Op.addrMod k a n) (Op.addrMod k a' n) := by
 unfold Op.addrMod
 refine .shapes ha.1 fun s => ?_
 cases s with
 | none => exact .unsup
 | some s =>
  refine .info fun i hi => ?_
  dsimp only
  split
  ·exact .unsupB
  ·exact (DU ha).eq fun n => .ret ⟨rfl, .int _ _⟩
theorem RL (op : BinOp) (t : TypeId) (k k' : IntKind) (a b : Int) : JE P (binOp op t (.int k a) (.int k' b)) := by
 by_cases h : k = k'
 ·subst h
  cases op
  all_goals unfold binOp
  all_goals dsimp only
  all_goals try rw [if_neg (fun e => e rfl)]
  all_goals first
   | exact KA _ _ _ _
   | exact Tv _ _ _ _
   | exact Mg _ _ _ _
   | exact Tw _ _ _
   | exact Kz _ _ _ _ _
 ·cases op
  all_goals unfold binOp
  all_goals dsimp only
  all_goals try rw [if_pos h]
  all_goals first
   | exact .dead (Be _)
   | exact Kz _ _ _ _ _
theorem RJ (op : BinOp) (t : TypeId) (a b : ByteArray) : JE P (binOp op t (.string a) (.string b)) := by
 cases op
 all_goals unfold binOp
 all_goals dsimp only
 all_goals exact Ky _ _ _
theorem Q6 (hG : P.globals.size ≤ π.base) (op : BinOp) (t : TypeId) {a a' : Option Addr} {y y' : Value} (hx : VR F π (.pointer a) (.pointer a')) (hy : VR F π y y') : SR P F (fun π => VR F π) π (binOp op t (.pointer a) y) (binOp op t (.pointer a') y') := by
 unfold binOp
 split
 all_goals try exact .stuck
 all_goals try exact .unsup
 all_goals try contradiction
 all_goals try (injections; done)
 case h_7 => exact Bh ((EG hG t hx hy).eq fun q => .ret ⟨rfl, .bool _⟩)
 case h_8 => exact Bh ((EG hG t hx hy).eq fun q => .ret ⟨rfl, .bool _⟩)
 case h_9 =>
  cases hy
  refine .under fun d hd => ?_
  cases d <;> first | exact Bh (RQ t hx (.int _ _)) | exact KJ t hx (.int _ _)
 case h_11 =>
  cases hy
  exact KJ t hx (.int _ _)
 case h_12 e =>
  cases e
  cases hx with
  | ptr hx => cases hy with
   | ptr hy => exact Bh ((BH hx).at fun p p' hp => (BH hy).at fun q q' hq => Qd hG _ hp.1 hq.1)
 case h_13 e =>
  cases e
  cases hx with
  | ptr hx => cases hy with
   | ptr hy => exact Bh ((BH hx).at fun p p' hp => (BH hy).at fun q q' hq => FM hG _ hp.1 hq.1)
 case h_14 e =>
  cases e
  cases hx with
  | ptr hx => cases hy with
   | ptr hy => exact Bh ((BH hx).at fun p p' hp => (BH hy).at fun q q' hq => FM hG _ hp.1 hq.1)
 case h_15 e =>
  cases e
  cases hx with
  | ptr hx => cases hy with
   | ptr hy => exact Bh ((BH hx).at fun p p' hp => (BH hy).at fun q q' hq => FM hG _ hp.1 hq.1)
 case h_16 e =>
  cases e
  cases hx with
  | ptr hx => cases hy with
   | ptr hy => exact Bh ((BH hx).at fun p p' hp => (BH hy).at fun q q' hq => FM hG _ hp.1 hq.1)
 case h_17 e =>
  cases e
  cases hx with
  | ptr hx => cases hy with
   | int k n => exact Bh ((BH hx).at fun p p' hp => Hf _ hp.1 _)
 case h_18 e =>
  cases e
  cases hx with
  | ptr hx => cases hy with
   | int k n => exact Bh ((BH hx).at fun p p' hp => Hf _ hp.1 _)
theorem Oy (hG : P.globals.size ≤ π.base) (op : BinOp) (t : TypeId) {a a' : Option Addr} {y y' : Value} (hx : VR F π (.pointer a) (.pointer a')) (hy : VR F π y y') (hn : ∀ b, y ≠ .pointer b) (hy0 : y ≠ .tuple #[]) : SR P F (fun π => VR F π) π (binOp op t y (.pointer a)) (binOp op t y' (.pointer a')) := by
 unfold binOp
 split
 all_goals try exact .stuck
 all_goals try exact .unsup
 all_goals try contradiction
 all_goals try (injections; done)
 all_goals try exact absurd rfl (hn _)
 case h_7 =>
  have h0 := EG (F := F) hG t hy hx
  cases hy <;> first | exact absurd rfl hy0 | exact Bh (h0.eq fun q => .ret ⟨rfl, .bool _⟩) | exact absurd rfl (hn _)
 case h_8 =>
  have h0 := EG (F := F) hG t hy hx
  cases hy <;> first | exact absurd rfl hy0 | exact Bh (h0.eq fun q => .ret ⟨rfl, .bool _⟩) | exact absurd rfl (hn _)
 case h_10 =>
  cases hy
  exact KJ t hx (.int _ _)
 case h_19 e =>
  cases e
  cases hx with
  | ptr hx => cases hy with
   | int k n => exact Bh ((BH hx).at fun p p' hp => Hf _ hp.1 _)
theorem WJ (hG : P.globals.size ≤ π.base) (op : BinOp) (t : TypeId) {x x' y y' : Value} (hx : VR F π x x') (hy : VR F π y y') (h1 : ∀ b, x ≠ .pointer b) (h2 : ∀ b, y ≠ .pointer b) (hx0 : x ≠ .tuple #[]) (hy0 : y ≠ .tuple #[]) : SR P F (fun π => VR F π) π (binOp op t x y) (binOp op t x' y') := by
 have key : ∀ {x y}, (∀ b, x ≠ .pointer b) → (∀ b, y ≠ .pointer b) → (∀ k a k' b, x = .int k a → y ≠ .int k' b) → (∀ a b, x = .string a → y ≠ .string b) → (∀ k a k' b, x = .float k a → y ≠ .float k' b) → (∀ k a c k' b d, x = .complex k a c → y ≠ .complex k' b d) →
   binOp op t x y = (match op with | .eql => (do pure (.bool (← Op.equal t x y)) : Sem Value) | .neq => (do pure (.bool (!(← Op.equal t x y))) : Sem Value) | _ => stuck "BinOp: no such operator on these operands") := by
  intro x y g1 g2 g3 g4 g5 g6
  unfold binOp
  split
  all_goals try rfl
  all_goals try exact absurd rfl (g1 _)
  all_goals try exact absurd rfl (g2 _)
  all_goals try exact absurd rfl (g3 _ _ _ _ rfl)
  all_goals try exact absurd rfl (g4 _ _ rfl)
  all_goals try exact absurd rfl (g5 _ _ _ _ rfl)
  all_goals try exact absurd rfl (g6 _ _ _ _ _ _ rfl)
  split
  ·simp_all
  ·simp_all
  ·rfl
 by_cases hi : ∃ k a k' b, x = .int k a ∧ y = .int k' b
 ·obtain ⟨k, a, k', b, rfl, rfl⟩ := hi
  cases hx; cases hy
  exact Bh (Gy (RL _ _ _ _ _ _))
 by_cases hs : ∃ a b, x = .string a ∧ y = .string b
 ·obtain ⟨a, b, rfl, rfl⟩ := hs
  cases hx; cases hy
  exact Bh (Gy (RJ _ _ _ _))
 rw [key h1 h2 (fun k a k' b e1 e2 => hi ⟨k, a, k', b, e1, e2⟩) (fun a b e1 e2 => hs ⟨a, b, e1, e2⟩) (fun k a k' b e1 e2 => by subst e1; cases hx) (fun k a c k' b d e1 e2 => by subst e1; cases hx)]
 rw [key (fun b e => by
   subst e; cases hx with
   | hole => exact hx0 rfl
   | _ => exact h1 _ rfl) (fun b e => by
   subst e; cases hy with
   | hole => exact hy0 rfl
   | _ => exact h2 _ rfl) (fun k a k' b e1 e2 => by
   subst e1; subst e2; cases hx with
   | hole => exact hx0 rfl
   | int => cases hy with
    | hole => exact hy0 rfl
    | int => exact hi ⟨_, _, _, _, rfl, rfl⟩)
  (fun a b e1 e2 => by
   subst e1; subst e2; cases hx with
   | hole => exact hx0 rfl
   | string => cases hy with
    | hole => exact hy0 rfl
    | string => exact hs ⟨_, _, rfl, rfl⟩) (fun k a k' b e1 e2 => by
   subst e1; cases hx with
   | hole => exact hx0 rfl) (fun k a c k' b d e1 e2 => by
   subst e1; cases hx with
   | hole => exact hx0 rfl)]
 split
 ·exact Bh ((EG hG t hx hy).eq fun q => .ret ⟨rfl, .bool _⟩)
 ·exact Bh ((EG hG t hx hy).eq fun q => .ret ⟨rfl, .bool _⟩)
 ·exact .stuck
theorem TU (hG : P.globals.size ≤ π.base) (op : BinOp) (t : TypeId) {x x' y y' : Value} (hx : VR F π x x') (hy : VR F π y y') : SR P F (fun π => VR F π) π (binOp op t x y) (binOp op t x' y') := by
 by_cases hx0 : x = .tuple #[]
 ·subst hx0; exact .dead (IQ op t y).1
 by_cases hy0 : y = .tuple #[]
 ·subst hy0; exact .dead (IQ op t x).2
 by_cases h1 : ∃ b, x = .pointer b
 ·obtain ⟨b, rfl⟩ := h1
  cases hx with
  | ptr0 => exact Q6 hG op t .ptr0 hy
  | ptr h => exact Q6 hG op t (.ptr h) hy
 by_cases h2 : ∃ b, y = .pointer b
 ·obtain ⟨b, rfl⟩ := h2
  have hn : ∀ b, x ≠ .pointer b := fun b e => h1 ⟨b, e⟩
  cases hy with
  | ptr0 => exact Oy hG op t .ptr0 hx hn hx0
  | ptr h => exact Oy hG op t (.ptr h) hx hn hx0
 exact WJ hG op t hx hy (fun b e => h1 ⟨b, e⟩) (fun b e => h2 ⟨b, e⟩) hx0 hy0
theorem Lj (op : BinOp) (t : TypeId) (x y : Operand) (a b : Value) (h : a = .tuple #[] ∨ b = .tuple #[]) : Bc P (eqGuard op t x y a b >>= fun _ => binOp op t a b) := by
 have e : eqGuard op t x y a b = pure () := by
  unfold eqGuard
  cases op <;> first | rfl | (rcases h with rfl | rfl <;> first | rfl | (cases a <;> rfl) | (cases b <;> rfl))
 rw [e]
 show Bc P (binOp op t a b)
 rcases h with rfl | rfl
 ·exact (IQ op t b).1
 ·exact (IQ op t a).2
theorem P6 (hG : P.globals.size ≤ π.base) (op : BinOp) (t : TypeId) (x y : Operand) {a a' b b' : Value} (ha : VR F π a a') (hb : VR F π b b') (ht : XI P t = true) : SR P F (fun π => VR F π) π (eqGuard op t x y a b >>= fun _ => binOp op t a b) (eqGuard op t x y a' b' >>= fun _ => binOp op t a' b') := by
 by_cases ha0 : a = .tuple #[]
 ·exact .dead (Lj op t x y a b (.inl ha0))
 by_cases hb0 : b = .tuple #[]
 ·exact .dead (Lj op t x y a b (.inr hb0))
 exact (P9 op t x y ha hb ht ha0 hb0).at fun _ _ _ => TU hG op t ha hb
theorem TK (op : UnOp) {x x' : Value} (hx : VR F π x x') : SR P F (At π (VR F π)) π (Op.unary op x) (Op.unary op x') := by
 unfold Op.unary
 split
 all_goals try exact .stuck
 all_goals try exact .unsup
 all_goals cases hx
 ·exact Gy (KA _ _ _ _)
 ·exact Gy (Mg _ _ _ _)
 ·exact .ret ⟨rfl, .bool _⟩
end
section
variable {P : Program} {F : FuncId → Prop} {π : Ren}
theorem TW (hz : FH P) (e : TypeId) : SR P F (fun π => VR F π) π (Instr.alloc e true (.tuple #[])) (Instr.alloc e true (.tuple #[])) :=
 (D8 hz e).at fun z z' h => (Mo e h).bind fun π' a a' hle hq => .ret (.ptr hq.1)
theorem YL (e : TypeId) {v v' : Value} (h : VR F π v v') : SR P F (fun π => VR F π) π (Instr.box e v) (Instr.box e v') :=
 (Mo e h).bind fun π' a a' hle hq => .ret (.ptr hq.1)
theorem RU (t : TypeId) {v v' : Value} (h : VR F π v v') : SR P F (At π (VR F π)) π (Instr.loadAt t v) (Instr.loadAt t v') := (Ih h).at fun a a' ha => EF t ha
theorem PX (t : TypeId) {v v' x x' : Value} (h : VR F π v v') (hx : VR F π x x') : SR P F (At π fun _ _ => True) π (Instr.storeAt t v x) (Instr.storeAt t v' x') := (Ih h).at fun a a' ha => Ou t ha hx
theorem P7 (t : TypeId) {v v' : Value} (h : VR F π v v') (n : Nat) : SR P F (At π (VR F π)) π (Instr.fieldAt t v n) (Instr.fieldAt t v' n) := by
 unfold Instr.fieldAt
 refine .under fun d hd => ?_
 cases d <;> try exact .stuck
 dsimp only
 split
 ·exact (Ih h).at fun a a' ha => (Fa ha _).at fun b b' hb => .ret ⟨rfl, .ptr hb⟩
 ·exact .stuck
theorem TP (t : TypeId) {v v' : Value} (h : VR F π v v') (n : Nat) : SR P F (At π (VR F π)) π (Instr.field t v n) (Instr.field t v' n) := by
 unfold Instr.field
 refine .under fun d hd => ?_
 cases d <;> try exact .stuck
 dsimp only
 split
 ·exact (TV h).at fun c c' hc => Er _ hc _
 ·exact .stuck
theorem SR.mapA {γ δ : Type} {g g' : γ → Sem δ} (h : ∀ a, SR P F (At π Eq) π (g a) (g' a)) (l : Array γ) : SR P F (At π Eq) π (l.mapM g) (l.mapM g') := by
 have key : ∀ l : List γ, SR P F (At π Eq) π (l.mapM g) (l.mapM g') := by
  intro l
  induction l with
  | nil => exact .ret ⟨rfl, rfl⟩
  | cons a l ih => rw [List.mapM_cons, List.mapM_cons]; exact (h a).eq fun x => ih.eq fun y => .ret ⟨rfl, rfl⟩
 rw [Array.mapM_eq_mapM_toList, Array.mapM_eq_mapM_toList]
 exact (key _).eq fun x => .ret ⟨rfl, rfl⟩
def Wm (F : FuncId → Prop) (π : Ren) (p p' : Nat × Value) : Prop := p.1 = p'.1 ∧ VR F π p.2 p'.2
theorem M5 {off : Nat} : ∀ {l l' : List Value}, LR (VR F π) l l' → ∀ (k : Nat) {c c' : Array Value}, AR (VR F π) c c' →
  AR (VR F π) ((l.zipIdx k).foldl (fun cs (x, j) => cs.setIfInBounds (off + j) x) c) ((l'.zipIdx k).foldl (fun cs (x, j) => cs.setIfInBounds (off + j) x) c')
 | _, _, .nil, _, _, _, h => h
 | _, _, .cons (x := x) (y := y) hx t, k, c, c', h => by
  rw [List.zipIdx_cons, List.zipIdx_cons, List.foldl_cons, List.foldl_cons]
  exact M5 t (k + 1) (h.set (off + k) hx)
theorem EM (place : Nat → Option (Nat × Nat)) : ∀ {l l' : List (Nat × Value)} {c c' : Array Value}, LR (Wm F π) l l' → AR (VR F π) c c' → OR (AR (VR F π)) (Instr.fill place c l) (Instr.fill place c' l')
 | _, _, c, c', .nil, h => .some h
 | _, _, c, c', .cons (x := (i, v)) (y := (i', v')) hx t, h => by
  obtain ⟨e, hv⟩ := hx
  dsimp only at e hv
  subst e
  unfold Instr.fill
  cases place i with
  | none => exact .none
  | some p =>
   obtain ⟨off, size⟩ := p
   have hc := hv.cells
   dsimp only
   rw [hc.1, h.1]
   split
   ·exact .none
   ·refine EM place t ?_
    have := M5 (off := off) hc.lr 0 h
    rw [← Array.foldl_toList, ← Array.foldl_toList, Array.toList_zipIdx, Array.toList_zipIdx]
    exact this
theorem TT (hz : FH P) (t : TypeId) {p p' : Array (Nat × Value)} (h : AR (Wm F π) p p') : SR P F (At π (VR F π)) π (Instr.build t p) (Instr.build t p') := by
 unfold Instr.build
 refine (D8 hz t).at fun z z' hz' => .under fun d hd => ?_
 cases d <;> try exact .stuck
 ·refine (BL _).eq fun n => ?_
  have := EM (fun i => some (i * n, n)) h.lr hz'.cells
  generalize Instr.fill _ z.cells p.toList = o at this ⊢
  generalize Instr.fill _ z'.cells p'.toList = o' at this ⊢
  cases this with
  | none => exact .stuck
  | some h => exact .ret ⟨rfl, .agg' h⟩
 ·refine SR.eq (SR.mapA (fun f : Field => (BL f.type).eq fun n => .ret ⟨rfl, rfl⟩) _) fun pl => ?_
  have := EM (pl[·]?) h.lr hz'.cells
  generalize Instr.fill _ z.cells p.toList = o at this ⊢
  generalize Instr.fill _ z'.cells p'.toList = o' at this ⊢
  cases this with
  | none => exact .stuck
  | some h => exact .ret ⟨rfl, .agg' h⟩
theorem AR.bang {z z' : Array Value} (h : AR (VR F π) z z') (i : Nat) : VR F π z[i]! z'[i]! := by
 rw [getElem!_def, getElem!_def]
 have := h.opt i
 generalize z[i]? = o at this ⊢
 generalize z'[i]? = o' at this ⊢
 cases this with
 | none => exact VR.bool _
 | some h => exact h
theorem AR.zeros {z z' : Array Value} (h : AR (VR F π) z z') (n : Nat) : AR (VR F π) ((Array.range n).map (fun i => z[i % z.size]!)) ((Array.range n).map (fun i => z'[i % z'.size]!)) := by
 rw [← h.1]
 exact AR.same fun i _ => h.bang _
theorem Mr (e : TypeId) (n : Nat) (why : String) {o o' : Option (Array Value)} (h : OR (AR (VR F π)) o o') : SR P F (fun π => VR F π) π
  (match (generalizing := false) o with | some cells => (do pure (.slice (some (← newRow e cells)) n n) : Sem Value) | _ => stuck why) (match (generalizing := false) o' with | some cells => (do pure (.slice (some (← newRow e cells)) n n) : Sem Value) | _ => stuck why) := by
 cases h with
 | none => exact .stuck
 | some h => exact (Dt _ h).bind fun π' a a' hle hq => .ret (.slice _ _ hq.1)
theorem LP (hz : FH P) (t : TypeId) (len : Nat) {p p' : Array (Nat × Value)} (h : AR (Wm F π) p p') : SR P F (fun π => VR F π) π (Instr.buildSlice t len p) (Instr.buildSlice t len p') := by
 unfold Instr.buildSlice
 refine .under fun d hd => ?_
 cases d <;> try exact .stuck
 refine (BL _).eq fun n => ?_
 dsimp only
 split
 ·exact .unsupB
 ·split
  ·exact Mr _ _ _ (EM _ h.lr (AR.zeros .nil _))
  ·exact (D8 hz _).at fun z z' hz' => Mr _ _ _ (EM _ h.lr (hz'.cells.zeros _))
theorem He (n : Nat) : SR P F (At π fun _ _ => True) π (askRoom n) (askRoom n) := by
 unfold askRoom
 split
 ·exact .room (.pure ⟨rfl, trivial⟩)
 ·exact .ret ⟨rfl, trivial⟩
theorem Nw (hz : FH P) (t : TypeId) {l l' c c' : Value} (hl : VR F π l l') (hc : VR F π c c') : SR P F (fun π => VR F π) π (Instr.makeSlice t l c) (Instr.makeSlice t l' c') := by
 unfold Instr.makeSlice
 refine .under fun d hd => ?_
 cases d <;> try exact .stuck
 refine (Jc hl).eq fun l => (Jc hc).eq fun c => .info fun i hi => ?_
 dsimp only
 split
 ·refine .dead ?_
  split
  ·exact (CY _).bind _
  ·split
   ·exact (CY _).bind _
   ·exact .choose fun n => (CY (.error (if n == 1 then "makeslice: cap out of range" else "makeslice: len out of range"))).bind _
 ·refine (He _).at fun _ _ _ => (BL _).eq fun n => ?_
  split
  ·exact (Dt _ (AR.zeros .nil _)).bind fun π' a a' hle hq => .ret (.slice _ _ hq.1)
  ·exact (D8 hz _).at fun z z' hz' => (Dt _ (hz'.cells.zeros _)).bind fun π' a a' hle hq => .ret (.slice _ _ hq.1)
theorem AdR.opt {π : Ren} {a a' : Option Addr} (h : OR (AdR π) a a') (n : Nat) : OR (AdR π) (a.map (·.add n)) (a'.map (·.add n)) := h.map fun _ _ h => h.add n
theorem VR.sliceO {a a' : Option Addr} (h : OR (AdR π) a a') (l c : Nat) : VR F π (.slice a l c) (.slice a' l c) := by
 cases h with
 | none => exact .slice0 l c
 | some h => exact .slice l c h
theorem De {v v' : Value} (h : VR F π v v') (y : Nat) (c : BoundsCode) : SR P F (At π Eq) π (Instr.sliceBound v y c) (Instr.sliceBound v' y c) := by
 unfold Instr.sliceBound
 refine (Ik h).eq fun k => ?_
 dsimp only
 split
 ·exact .ret ⟨rfl, rfl⟩
 ·exact .bp
theorem GA (b : Bool) (len cap : Nat) {l l' h h' m m' : Option Value} (hl : OR (VR F π) l l') (hh : OR (VR F π) h h') (hm : OR (VR F π) m m') : SR P F (At π Eq) π (Instr.sliceBounds b len cap l h m) (Instr.sliceBounds b len cap l' h' m') := by
 unfold Instr.sliceBounds
 cases hm with
 | none => cases hh with
  | none => cases hl with
   | none => exact .ret ⟨rfl, rfl⟩
   | some hl => exact (De hl _ _).eq fun n => .ret ⟨rfl, rfl⟩
  | some hh => cases hl with
   | none => exact (De hh _ _).eq fun n => .ret ⟨rfl, rfl⟩
   | some hl => exact (De hh _ _).eq fun n => (De hl _ _).eq fun m => .ret ⟨rfl, rfl⟩
 | some hm => cases hh with
  | none => exact (De hm _ _).eq fun c => .stuckB
  | some hh => cases hl with
   | none => exact (De hm _ _).eq fun c => (De hh _ _).eq fun n => .ret ⟨rfl, rfl⟩
   | some hl => exact (De hm _ _).eq fun c => (De hh _ _).eq fun n => (De hl _ _).eq fun m => .ret ⟨rfl, rfl⟩
theorem TL (t : TypeId) {x x' : Value} (hx : VR F π x x') {l l' h h' m m' : Option Value} (hl : OR (VR F π) l l') (hh : OR (VR F π) h h') (hm : OR (VR F π) m m') : SR P F (At π (VR F π)) π (Instr.slice t x l h m) (Instr.slice t x' l' h' m') := by
 unfold Instr.slice
 refine .under fun d hd => ?_
 split
 all_goals try exact .stuck
 case h_1 =>
  cases hx
  dsimp only
  cases hm with
  | none => exact (GA _ _ _ hl hh .none).eq fun n => .ret ⟨rfl, .string _⟩
  | some _ => exact .stuckB
 case h_2 =>
  have key : ∀ {a a' : Option Addr} (ha : OR (AdR π) a a') (e : TypeId) (len cap : Nat), SR P F (At π (VR F π)) π (do let (l, h, m) ← Instr.sliceBounds true len cap l h m; let size ← sizeOf e; pure (.slice (if m = l then a else a.map (·.add (l * size))) (h - l) (m - l)))
    (do let (l, h, m) ← Instr.sliceBounds true len cap l' h' m'; let size ← sizeOf e; pure (.slice (if m = l then a' else a'.map (·.add (l * size))) (h - l) (m - l))) := by
   intro a a' ha e len cap
   refine (GA _ _ _ hl hh hm).eq fun n => (BL _).eq fun s => .ret ⟨rfl, ?_⟩
   split
   ·exact .sliceO ha _ _
   ·exact .sliceO (AdR.opt ha _) _ _
  cases hx with
  | slice0 l c => exact key .none _ _ _
  | slice l c ha => exact key (.some ha) _ _ _
 case h_3 =>
  have key : ∀ {a a' : Addr} (ha : AdR π a a') (n : Nat) (e : TypeId), SR P F (At π (VR F π)) π (do let (l, h, m) ← Instr.sliceBounds false n n l h m; let size ← sizeOf e; pure (.slice (some (if m = l then a else a.add (l * size))) (h - l) (m - l)))
    (do let (l, h, m) ← Instr.sliceBounds false n n l' h' m'; let size ← sizeOf e; pure (.slice (some (if m = l then a' else a'.add (l * size))) (h - l) (m - l))) := by
   intro a a' ha n e
   refine (GA _ _ _ hl hh hm).eq fun n => (BL _).eq fun s => .ret ⟨rfl, ?_⟩
   split
   ·exact .slice _ _ ha
   ·exact .slice _ _ (ha.add _)
  refine (Il hx).at fun a a' ha => .under fun d2 hd2 => ?_
  cases d2 <;> try exact .stuck
  exact key ha _ _
theorem PY (t : TypeId) {x x' : Value} (hx : VR F π x x') {l l' h h' m m' : Option Value} (hl : OR (VR F π) l l') (hh : OR (VR F π) h h') (hm : OR (VR F π) m m') : SR P F (At π (VR F π)) π (Instr.sliceAt t x l h m) (Instr.sliceAt t x' l' h' m') := by
 unfold Instr.sliceAt
 refine .under fun d hd => ?_
 cases d <;> try exact TL t hx hl hh hm
 refine (Ih hx).at fun a a' ha => (GA _ _ _ hl hh hm).eq fun n => (BL _).eq fun s => .ret ⟨rfl, ?_⟩
 split
 ·exact .slice _ _ ha
 ·exact .slice _ _ (ha.add _)
theorem P5 (t : TypeId) {x x' i i' : Value} (hx : VR F π x x') (hi : VR F π i i') : SR P F (At π (VR F π)) π (Instr.indexAt t x i) (Instr.indexAt t x' i') := by
 unfold Instr.indexAt
 refine (Ik hi).eq fun k => .under fun d hd => ?_
 have key : ∀ {b b' : Option Addr} (hb : OR (AdR π) b b') (len : Nat) (elem : TypeId) (tiny : Bool), SR P F (At π (VR F π)) π
   (match (generalizing := false) b with
    | some a => if 0 ≤ k.2 ∧ k.2 < len then (do pure (.pointer (some (a.add (k.2.toNat * (← sizeOf elem))))) : Sem Value) else if tiny then unsupported (.noEntry "op/indexAddr.an index out of range at an array of length 0 or 1 (ledger 616)") else boundsPanic k.1 k.2 len .index
    | none => boundsPanic k.1 k.2 0 .index)
   (match (generalizing := false) b' with
    | some a => if 0 ≤ k.2 ∧ k.2 < len then (do pure (.pointer (some (a.add (k.2.toNat * (← sizeOf elem))))) : Sem Value) else if tiny then unsupported (.noEntry "op/indexAddr.an index out of range at an array of length 0 or 1 (ledger 616)") else boundsPanic k.1 k.2 len .index
    | none => boundsPanic k.1 k.2 0 .index) := by
  intro b b' hb len elem tiny
  cases hb with
  | none => exact .bp
  | some hb =>
   dsimp only
   split
   ·exact (BL _).eq fun n => .ret ⟨rfl, .ptr (hb.add _)⟩
   ·split
    ·exact .unsup
    ·exact .bp
 split
 ·exact (Ih hx).at fun a a' ha => .under fun d2 hd2 => key (.some ha) _ _ _
 ·cases hx with
  | slice0 l c => exact .under fun d2 hd2 => .bp
  | slice l c ha => exact .under fun d2 hd2 => key (.some ha) _ _ _
 ·exact .stuckB
theorem TN (t : TypeId) {x x' i i' : Value} (hx : VR F π x x') (hi : VR F π i i') : SR P F (At π (VR F π)) π (Instr.index t x i) (Instr.index t x' i') := by
 unfold Instr.index
 refine (Ik hi).eq fun k => .under fun d hd => ?_
 split
 ·cases hx with
  | agg h1 h2 =>
   dsimp only
   split
   ·exact (BL _).eq fun n => Er _ ⟨h1, h2⟩ _
   ·exact .bp
 ·cases hx
  dsimp only
  split
  ·exact .ret ⟨rfl, .int _ _⟩
  ·exact .bp
 ·exact .stuck
end
section
variable {P : Program} {F : FuncId → Prop} {π : Ren}
theorem SR.forU {γ : Type} {g g' : γ → PUnit → Sem (ForInStep PUnit)} (h : ∀ a, SR P F (At π fun x y => x = .yield ⟨⟩ ∧ y = .yield ⟨⟩) π (g a ⟨⟩) (g' a ⟨⟩)) (l : List γ) : SR P F (At π fun _ _ => True) π (forIn l PUnit.unit g) (forIn l PUnit.unit g') := by
 induction l with
 | nil => rw [List.forIn_nil, List.forIn_nil]; exact .ret ⟨rfl, trivial⟩
 | cons a l ih =>
  rw [List.forIn_cons, List.forIn_cons]
  refine (h a).at fun s s' hs => ?_
  obtain ⟨rfl, rfl⟩ := hs
  exact ih
theorem SR.forUA {γ : Type} {g g' : γ → PUnit → Sem (ForInStep PUnit)} (h : ∀ a, SR P F (At π fun x y => x = .yield ⟨⟩ ∧ y = .yield ⟨⟩) π (g a ⟨⟩) (g' a ⟨⟩)) (l : Array γ) : SR P F (At π fun _ _ => True) π (forIn l PUnit.unit g) (forIn l PUnit.unit g') := by
 rw [← Array.forIn_toList, ← Array.forIn_toList]; exact SR.forU h _
theorem SR.forUR {g g' : Nat → PUnit → Sem (ForInStep PUnit)} (h : ∀ a, SR P F (At π fun x y => x = .yield ⟨⟩ ∧ y = .yield ⟨⟩) π (g a ⟨⟩) (g' a ⟨⟩)) (r : Std.Legacy.Range) : SR P F (At π fun _ _ => True) π (forIn r PUnit.unit g) (forIn r PUnit.unit g') := by
 rw [Std.Legacy.Range.forIn_eq_forIn_range', Std.Legacy.Range.forIn_eq_forIn_range']; exact SR.forU h _
theorem CQ (e : Bool) : ∀ (n : Nat) (t : TypeId) {v v' : Value}, VR F π v v' → SR P F (At π fun _ _ => True) π (Instr.checkKey e n t v) (Instr.checkKey e n t v')
 | 0, _, _, _, _ => .unsup
 | n + 1, t, v, v', hv => by
  unfold Instr.checkKey
  refine .under fun d hd => ?_
  split
  case h_1 =>
   cases hv with
   | iface t1 hv =>
    refine .info fun i hi => ?_
    split
    ·split
     ·exact .rtB
     ·exact (KH _).eq fun s => .rtB
    ·exact CQ e n _ hv
  case h_2 =>
   cases hv with
   | agg h1 h2 =>
    refine SR.at (SR.forUR (fun i => ?_) _) fun _ _ _ => .ret ⟨rfl, trivial⟩
    exact (BL _).eq fun s => (Er _ ⟨h1, h2⟩ _).at fun u u' hu => (CQ e n _ hu).at fun _ _ _ => .ret ⟨rfl, rfl, rfl⟩
  case h_3 =>
   cases hv with
   | agg h1 h2 =>
    refine SR.at (SR.forUA (fun f => ?_) _) fun _ _ _ => .ret ⟨rfl, trivial⟩
    split
    ·exact (Er _ ⟨h1, h2⟩ _).at fun u u' hu => (CQ e n _ hu).at fun _ _ _ => .ret ⟨rfl, rfl, rfl⟩
    ·exact .ret ⟨rfl, rfl, rfl⟩
  case h_4 => cases hv; exact .ret ⟨rfl, trivial⟩
  case h_5 => exact .stuck
  case h_6 => exact .stuck
  case h_7 => exact .stuck
  case h_8 =>
   split
   all_goals first
    | exact .ret ⟨rfl, trivial⟩
    | (exfalso; simp_all; done)
def Ws (F : FuncId → Prop) (π : Ren) : Option (Nat × Value) → Option (Nat × Value) → Prop := OR fun a b => a.1 = b.1 ∧ VR F π a.2 b.2
theorem GU (hG : P.globals.size ≤ π.base) (t : TypeId) {k k' : Value} (hk : VR F π k k') : ∀ {l l' : List MapEntry} (i : Nat), LR (EnR F π) l l' → SR P F (At π (Ws F π)) π (Instr.findAsking t k l i) (Instr.findAsking t k' l' i)
 | [], [], _, .nil => .ret ⟨rfl, .none⟩
 | _ :: _, _ :: _, i, .cons (.mk b h1 h2) tl => by
  unfold Instr.findAsking
  refine (EG hG t hk h1).eq fun q => ?_
  cases q with
  | true => exact .ret ⟨rfl, .some ⟨rfl, h2⟩⟩
  | false => exact GU hG t hk (i + 1) tl
theorem Io (d : TypeDesc) {k k' v v' : Value} (hk : VR F π k k') (hv : VR F π v v') (r : Bool) (hr : Instr.sameNow d k v = some r) : Instr.sameNow d k' v' = some r := by
 unfold Instr.sameNow at hr
 split at hr
 all_goals first
  | (cases hk; cases hv; exact hr)
  | (exact absurd hr (by simp))
theorem Nz (d : TypeDesc) {k k' v v' : Value} (hk : VR F π k k') (hv : VR F π v v') (h : Instr.sameNow d k v = none) : Instr.sameNow d k' v' = none ∨ k = .tuple #[] ∨ v = .tuple #[] := by
 by_cases h1 : k = .tuple #[]
 ·exact .inr (.inl h1)
 by_cases h2 : v = .tuple #[]
 ·exact .inr (.inr h2)
 refine .inl ?_
 cases h' : Instr.sameNow d k' v' with
 | none => rfl
 | some r =>
  exfalso
  unfold Instr.sameNow at h'
  split at h'
  all_goals first
   | (cases hk with
      | hole => exact h1 rfl
      | _ => cases hv with
       | hole => exact h2 rfl
       | _ => exact absurd (h.symm.trans h') (by simp))
   | (exact absurd h' (by simp))
theorem Tu {γ : Type} {t : TypeId} {d : TypeDesc} {f : TypeDesc → Sem γ} (hd : P.underlying t = some d) (h : Bc P (f d)) : Bc P (underlying t >>= f) := by
 rw [FV]
 refine .program ?_
 rw [hd]
 exact h
theorem eq_false {t : TypeId} {d : TypeDesc} {k v : Value} {n : Nat} (hd : P.underlying t = some d) (hs : Instr.sameNow d k v = some false) {γ : Type} (f : Bool → Sem γ) (hf : Bc P (f false)) : Bc P (Op.equalIn (n + 1) t k v >>= f) := by
 unfold Op.equalIn
 show Bc P (Sem.bind (Sem.bind _ _) f)
 rw [bind_assoc']
 refine Tu (d := d) hd ?_
 unfold Instr.sameNow at hs
 split at hs
 ·dsimp only
  split at hs
  ·next h => rw [if_pos h]; injection hs with hs; rw [hs]; exact hf
  ·cases hs
 ·injection hs with hs; dsimp only; rw [hs]; exact hf
 ·injection hs with hs; dsimp only; rw [hs]; exact hf
 ·cases hs
theorem JY (t : TypeId) {d : TypeDesc} (hd : P.underlying t = some d) {k k' : Value} (hk : VR F π k k') : ∀ {l l' : List MapEntry} (i j : Nat) (r : Option (Nat × Value)), LR (EnR F π) l l' → Instr.findNow d k l i = none → Instr.findNow d k' l' i = some r → Bc P (Instr.findAsking t k l j)
 | [], [], i, j, r, .nil, h, _ => by simp [Instr.findNow] at h
 | _ :: _, _ :: _, i, j, r, .cons (.mk (k := kk) b h1 h2) tl, h, h' => by
  unfold Instr.findNow at h h'
  unfold Instr.findAsking
  dsimp only at h h' ⊢
  have he := Nb (P := P) Op.maxDepth t
  cases hs : Instr.sameNow d k kk with
  | none =>
   rcases Nz d hk h1 hs with hn | rfl | rfl
   ·rw [hn] at h'; cases h'
   ·exact Bc.bind (he _).1 _
   ·exact Bc.bind (he _).2 _
  | some q =>
   rw [hs] at h
   rw [Io d hk h1 q hs] at h'
   cases q with
   | true => cases h
   | false =>
    have ih := JY t hd hk (i + 1) (j + 1) r tl h h'
    exact eq_false (n := 9999) hd hs _ ih
theorem IM (d : TypeDesc) {k k' : Value} (hk : VR F π k k') : ∀ {l l' : List MapEntry} (i : Nat) (r : Option (Nat × Value)), LR (EnR F π) l l' → Instr.findNow d k l i = some r → ∃ r', Instr.findNow d k' l' i = some r' ∧ Ws F π r r'
 | [], [], i, r, .nil, h => by
  simp only [Instr.findNow, Option.some.injEq] at h
  subst h
  exact ⟨none, rfl, .none⟩
 | _ :: _, _ :: _, i, r, .cons (.mk b h1 h2) tl, h => by
  unfold Instr.findNow at h ⊢
  dsimp only at h ⊢
  cases hs : Instr.sameNow d k _ with
  | none => rw [hs] at h; cases h
  | some q =>
   rw [hs] at h
   rw [Io d hk h1 q hs]
   cases q with
   | true =>
    injection h with h
    subst h
    exact ⟨_, rfl, .some ⟨rfl, h2⟩⟩
   | false => exact IM d hk (i + 1) r tl h
theorem Hd (hG : P.globals.size ≤ π.base) (t : TypeId) {k k' : Value} (hk : VR F π k k') {l l' : List MapEntry} (hl : LR (EnR F π) l l') : SR P F (At π (Ws F π)) π (Instr.findKey t k l) (Instr.findKey t k' l') := by
 unfold Instr.findKey
 refine .under fun d hd => ?_
 cases h : Instr.findNow d k l 0 with
 | none =>
  cases h' : Instr.findNow d k' l' 0 with
  | none => exact GU hG t hk 0 hl
  | some r => exact .dead (JY t hd hk 0 0 r hl h h')
 | some r =>
  obtain ⟨r', e, hr⟩ := IM d hk 0 r hl h
  rw [e]
  exact .ret ⟨rfl, hr⟩
theorem RS (hz : FH P) (hG : P.globals.size ≤ π.base) (t : TypeId) {x x' k k' : Value} (hx : VR F π x x') (hk : VR F π k k') (ok : Bool) : SR P F (At π (VR F π)) π (Instr.lookup t x k ok) (Instr.lookup t x' k' ok) := by
 unfold Instr.lookup
 refine .under fun d hd => ?_
 cases d <;> try exact .stuck
 rename_i key elem
 have tail : ∀ {es es' : Array MapEntry}, AR (EnR F π) es es' → SR P F (At π (VR F π)) π
   (do Instr.checkKey es.isEmpty 10000 key k
       let (v, o) ← match ← Instr.findKey key k es.toList with
        | some (_, v) => pure (v, true)
        | none => pure (← zeroValue elem, false)
       pure (if ok then .tuple #[v, .bool o] else v))
   (do Instr.checkKey es'.isEmpty 10000 key k'
       let (v, o) ← match ← Instr.findKey key k' es'.toList with
        | some (_, v) => pure (v, true)
        | none => pure (← zeroValue elem, false)
       pure (if ok then .tuple #[v, .bool o] else v)) := by
  intro es es' he
  have hr : ∀ {v v' : Value} (b : Bool), VR F π v v' → SR P F (At π (VR F π)) π (pure (if ok then .tuple #[v, .bool b] else v)) (pure (if ok then .tuple #[v', .bool b] else v')) := by
   intro v v' b hv
   cases ok with
   | true => exact .ret ⟨rfl, .tuple' ((AR.nil.push hv).push (.bool b))⟩
   | false => exact .ret ⟨rfl, hv⟩
  have e1 : es'.isEmpty = es.isEmpty := by unfold Array.isEmpty; rw [he.1]
  rw [e1]
  refine (CQ _ _ _ hk).at fun _ _ _ => (Hd hG key hk he.lr).at fun o o' ho => ?_
  cases ho with
  | none => exact (D8 hz _).at fun z z' hz' => hr false hz'
  | some h => exact hr true h.2
 cases hx with
 | map0 => exact tail .nil
 | map hr => exact .gets hr fun o o' ho => by cases ho <;> first | exact .stuckB | exact tail ‹_›
 | _ => exact .stuckB
theorem NA : ∀ (n : Nat) {a a' b b' : Value}, VR F π a a' → VR F π b b' → Instr.sameBits n a b = true → Instr.sameBits n a' b' = true := by
 have hc : ∀ {r r' s s' : Nat}, π.to r = some r' → π.to s = some s' → (some r == some s) = true → (some r' == some s') = true := by
  intro r r' s s' h k
  simp only [beq_iff_eq, Option.some.injEq]
  intro e; subst e; exact Option.some.inj (h.symm.trans k)
 have hp : ∀ {a a' b b' : Addr}, AdR π a a' → AdR π b b' → (some a == some b) = true → (some a' == some b') = true := by
  intro a a' b b' h k
  simp only [beq_iff_eq, Option.some.injEq]
  exact (h.eq_iff k).2
 intro n
 induction n with
 | zero =>
  intro a a' b b' ha hb hs
  cases ha with
  | ptr h => cases hb with
   | ptr k => exact hp h k hs
   | _ => exact absurd hs (by simp [Instr.sameBits])
  | chan h => cases hb with
   | chan k => exact hc h k hs
   | _ => exact absurd hs (by simp [Instr.sameBits])
  | _ => cases hb <;> first | exact hs | exact absurd hs (by simp [Instr.sameBits])
 | succ n ih =>
  intro a a' b b' ha hb hs
  cases ha with
  | ptr h => cases hb with
   | ptr k => exact hp h k hs
   | _ => exact absurd hs (by simp [Instr.sameBits])
  | chan h => cases hb with
   | chan k => exact hc h k hs
   | _ => exact absurd hs (by simp [Instr.sameBits])
  | iface t h => cases hb with
   | iface u k =>
    have hs' : (t == u && Instr.sameBits n _ _) = true := hs
    rw [Bool.and_eq_true] at hs'
    show (t == u && _) = true
    rw [Bool.and_eq_true]
    exact ⟨hs'.1, ih h k hs'.2⟩
   | _ => exact absurd hs (by simp [Instr.sameBits])
  | agg h1 h2 => cases hb with
   | agg k1 k2 =>
    rename_i c c' d d'
    have hs' : (c.size == d.size && (c.toList.zip d.toList).all fun p => Instr.sameBits n p.1 p.2) = true := hs
    show (c'.size == d'.size && (c'.toList.zip d'.toList).all fun p => Instr.sameBits n p.1 p.2) = true
    rw [← h1, ← k1]
    rw [Bool.and_eq_true] at hs' ⊢
    refine ⟨hs'.1, ?_⟩
    have hs2 := hs'.2
    clear hs hs'
    have e1 : LR (VR F π) c.toList c'.toList := AR.lr ⟨h1, h2⟩
    have e2 : LR (VR F π) d.toList d'.toList := AR.lr ⟨k1, k2⟩
    generalize c.toList = l1 at e1 hs2
    generalize c'.toList = l2 at e1
    generalize d.toList = l3 at e2 hs2
    generalize d'.toList = l4 at e2
    clear h1 h2 k1 k2
    induction e1 generalizing l3 l4 with
    | nil => rfl
    | cons hx _ ihx =>
     cases e2 with
     | nil => rfl
     | cons hy t2 =>
      simp only [List.zip_cons_cons, List.all_cons, Bool.and_eq_true] at hs2 ⊢
      exact ⟨ih hx hy hs2.1, ihx _ hs2.2 _ t2⟩
   | _ => exact absurd hs (by simp [Instr.sameBits])
  | _ => cases hb <;> first | exact hs | exact absurd hs (by simp [Instr.sameBits])
theorem Ow {a a' b b' : Value} (ha : VR F π a a') (hb : VR F π b b') : SR P F (At π (VR F π)) π (Instr.keyThatStays a b) (Instr.keyThatStays a' b') := by
 unfold Instr.keyThatStays
 cases h : Instr.sameBits 10000 a b with
 | true =>
  rw [NA 10000 ha hb h]
  exact .ret ⟨rfl, hb⟩
 | false =>
  cases h' : Instr.sameBits 10000 a' b' with
  | false =>
   refine .chooses fun n => .ret ⟨rfl, ?_⟩
   split
   ·exact hb
   ·exact ha
  | true =>
   refine .chooseL 0 rfl ?_
   exact .ret ⟨rfl, hb⟩
theorem Aar {es es' : Array MapEntry} (h : AR (EnR F π) es es') (i : Nat) {k k' : Value} (hk : VR F π k k') : VR F π (((es[i]?).map (·.key)).getD k) (((es'[i]?).map (·.key)).getD k') := by
 have := h.opt i
 generalize es[i]? = o at this ⊢
 generalize es'[i]? = o' at this ⊢
 cases this with
 | none => exact hk
 | some h => cases h with
  | mk b h1 h2 => exact h1
theorem Ij (hG : P.globals.size ≤ π.base) (t : TypeId) {x x' k k' v v' : Value} (hx : VR F π x x') (hk : VR F π k k') (hv : VR F π v v') : SR P F (At π fun _ _ => True) π (Instr.mapUpdate t x k v) (Instr.mapUpdate t x' k' v') := by
 unfold Instr.mapUpdate
 refine .under fun d hd => ?_
 cases d <;> try exact .stuck
 cases hx with
 | map0 => exact .rt
 | map hr =>
  refine .gets hr fun o o' ho => ?_
  cases ho <;> try exact .stuck
  rename_i es es' n he
  refine (CQ _ _ _ hk).at fun _ _ _ => (Hd hG _ hk he.lr).at fun f f' hf => ?_
  cases hf with
  | none => exact .sets hr (.map _ (he.push (.mk _ hk hv))) (.ret ⟨rfl, trivial⟩)
  | some h =>
   rename_i p p'
   obtain ⟨i, u⟩ := p; obtain ⟨i', u'⟩ := p'
   obtain ⟨e, h⟩ := h
   dsimp only at e h
   subst e
   refine (Ow (Aar he i hk) hk).at fun q q' hq => ?_
   refine .sets hr (.map _ (he.modify _ fun a b hab => ?_)) (.ret ⟨rfl, trivial⟩)
   cases hab with
   | mk b h1 h2 => exact .mk b hq hv
 | _ => exact .stuck
end
section
variable {P : Program} {F : FuncId → Prop} {π : Ren}
theorem P8 {v v' : Value} (h : VR F π v v') (i : Nat) : SR P F (At π (VR F π)) π (Instr.extract v i) (Instr.extract v' i) := by
 unfold Instr.extract
 cases h <;> try exact .stuck
 rename_i c c' h1 h2
 dsimp only
 rcases e : c[i]? with _ | x
 ·exact .stuck
 ·obtain ⟨y, hy, hr⟩ := AR.get ⟨h1, h2⟩ e
  rw [hy]; exact .ret ⟨rfl, hr⟩
theorem Ja (t : TypeId) {v v' : Value} (h : VR F π v v') : SR P F (At π (VR F π)) π (Instr.makeInterface t v) (Instr.makeInterface t v') := by
 unfold Instr.makeInterface
 refine .under fun d hd => ?_
 cases d <;> first | exact .stuck | exact .ret ⟨rfl, .iface t h⟩
theorem PZ (t : TypeId) {r r' : Option Value} (h : OR (VR F π) r r') : SR P F (fun π => VR F π) π (Instr.makeMap t r) (Instr.makeMap t r') := by
 unfold Instr.makeMap
 have mk : SR P F (fun π => VR F π) π (do pure (.map (some (← newObj (.map #[] 0)))) : Sem Value) (do pure (.map (some (← newObj (.map #[] 0)))) : Sem Value) := .news (.map 0 .nil) fun π' n n' hle h1 h2 => .ret (.map h1)
 cases h with
 | none => exact mk
 | some h =>
  refine .under fun d hd => ?_
  cases d <;> try exact .stuckB
  exact (Jc h).eq fun n => mk
theorem TM {v v' : Value} (h : VR F π v v') {β : Type} {Q : Ren → Value → β → Prop} {s' : Sem β} : SR P F Q π (Instr.panic v) s' := by
 unfold Instr.panic
 cases h <;> first
  | exact .stuck
  | exact .dead (Cw _)
  | skip
 refine .dead (.sys fun r => ?_)
 cases r <;> first
  | exact (Be (P := P) "strings expected").bind _
  | skip
 refine .program ?_
 show Bc P (if _ then _ else _)
 split
 ·exact Cw _
 ·exact CY _
theorem LJ (hz : FH P) {x x' : Value} (hx : VR F π x x') (xt t : TypeId) (ok : Bool) : SR P F (At π (VR F π)) π (Instr.typeAssert x xt t ok) (Instr.typeAssert x' xt t ok) := by
 unfold Instr.typeAssert
 have holds : ∀ {v v' : Value}, VR F π v v' → SR P F (At π (VR F π)) π (pure (if ok then .tuple #[v, .bool true] else v) : Sem Value) (pure (if ok then .tuple #[v', .bool true] else v') : Sem Value) := by
  intro v v' hv
  cases ok with
  | true => exact .ret ⟨rfl, .tuple' ((AR.nil.push hv).push (.bool _))⟩
  | false => exact .ret ⟨rfl, hv⟩
 have fails : ∀ (a b : Option TypeId) (m : String), SR P F (At π (VR F π)) π (if ok then do pure (.tuple #[← zeroValue t, .bool false]) else runtimePanic (.typeAssertion a b t m) : Sem Value) (if ok then do pure (.tuple #[← zeroValue t, .bool false]) else runtimePanic (.typeAssertion a b t m) : Sem Value) := by
  intro a b m
  split
  ·exact (D8 hz t).at fun z z' h => .ret ⟨rfl, .tuple' ((AR.nil.push h).push (.bool _))⟩
  ·exact .rt
 refine .under fun d hd => ?_
 cases hx with
 | nilIface => cases d <;> exact fails _ _ _
 | iface t1 hv =>
  cases d
  case interface ms =>
   refine .info fun i hi => ?_
   dsimp only
   split
   ·exact holds (.iface t1 hv)
   ·exact fails _ _ _
  all_goals
   dsimp only
   split
   ·exact holds hv
   ·exact fails _ _ _
 | _ => cases d <;> exact .stuck
theorem AR.two {x y x' y' : Value} (hx : VR F π x x') (hy : VR F π y y') : AR (VR F π) #[x, y] #[x', y'] := (AR.nil.push hx).push hy
theorem YJ {args args' : Array Value} (h : AR (VR F π) args args') (ts : Array TypeId) (t : TypeId) : SR P F (At π (VR F π)) π (Builtin.len_ ts t args) (Builtin.len_ ts t args') := by
 unfold Builtin.len_
 have h0 := h.opt 0
 generalize args[0]? = o at h0 ⊢
 generalize args'[0]? = o' at h0 ⊢
 cases ts[0]? with
 | none => exact .stuck
 | some xt =>
  cases h0 with
  | none => exact .stuck
  | some hx =>
   refine .under fun d hd => ?_
   split
   case h_1 => cases hx; exact .ret ⟨rfl, .int _ _⟩
   case h_2 => cases hx <;> exact .ret ⟨rfl, .int _ _⟩
   case h_3 => exact .under fun d2 hd2 => by cases d2 <;> first | exact .stuck | exact .ret ⟨rfl, .int _ _⟩
   case h_4 => cases hx <;> exact .ret ⟨rfl, .int _ _⟩
   case h_5 => cases hx; exact .ret ⟨rfl, .int _ _⟩
   case h_6 => cases hx; exact .ret ⟨rfl, .int _ _⟩
   case h_7 =>
    cases hx with
    | map hr =>
     refine .gets hr fun o o' ho => ?_
     cases ho <;> try exact .stuck
     rename_i es es' n he
     exact .ret ⟨rfl, by rw [he.1]; exact .int _ _⟩
   case h_8 =>
    cases hx with
    | chan hr => exact .gets hr fun o o' ho => by cases ho <;> exact .stuck
   case h_9 => exact .stuck
theorem KL {x x' : Value} (hx : VR F π x x') : SR P F (At π Eq) π (Builtin.lenOf x) (Builtin.lenOf x') := by
 unfold Builtin.lenOf
 cases hx <;> first | exact .ret ⟨rfl, rfl⟩ | exact .stuck
theorem CF (size n : Nat) {x x' : Value} (hx : VR F π x x') : SR P F (At π (AR (VR F π))) π (Builtin.firstCells size n x) (Builtin.firstCells size n x') := by
 unfold Builtin.firstCells
 cases hx with
 | slice0 l c => exact .ret ⟨rfl, .nil⟩
 | slice l c ha => exact Es ha _
 | string s => exact .ret ⟨rfl, AR.same fun b _ => .int _ _⟩
 | _ => exact .stuck
theorem AR.zeroCells {z z' : Array Value} (h : AR (VR F π) z z') (n : Nat) : AR (VR F π) (Builtin.zeroCells z n) (Builtin.zeroCells z' n) := by
 unfold Builtin.zeroCells
 rw [h.1]
 refine AR.same fun i _ => ?_
 exact h.bang _
theorem L6 {γ : Type} (size l n : Nat) (b : Option Addr) (x : Value) (f : Bool → Sem γ) (hf : ∀ b, Bc P (f b)) : Bc P (Builtin.mayShare size l n b x >>= f) := by
 have hh : ∀ (a : Addr) (n : Nat) (g : Bool → Sem γ), (∀ b, Bc P (g b)) → Bc P (Builtin.holdsCells a n >>= g) := fun a n g hg => .shape fun s => by cases s <;> exact hg _
 unfold Builtin.mayShare
 show Bc P (Sem.bind _ _)
 cases b with
 | none =>
  cases x with
  | slice a l c => cases a with
   | none => exact hf _
   | some a => exact .shape fun s => by cases s <;> exact hf _
  | _ => exact hf _
 | some a =>
  refine .shape fun s => ?_
  cases s with
  | none =>
   refine .frozen fun fr => ?_
   exact hf _
  | some s =>
   refine .frozen fun fr => ?_
   show Bc P (Sem.bind (if _ then _ else _) _)
   split
   ·exact hf _
   ·cases x with
    | slice a l c => cases a with
     | none => exact hf _
     | some a => exact .shape fun s => by cases s <;> exact hf _
    | _ => exact hf _
theorem RY (hz : FH P) {args args' : Array Value} (h : AR (VR F π) args args') (ts : Array TypeId) (t : TypeId) (hn : ∀ xt k, ts[1]? = some xt → P.underlying xt ≠ some (.int k)) :
  SR P F (fun π => VR F π) π (Builtin.append_ ts t args) (Builtin.append_ ts t args') := by
 unfold Builtin.append_
 have h0 := h.opt 0
 have h1 := h.opt 1
 generalize args[0]? = o at h0 ⊢
 generalize args'[0]? = o' at h0 ⊢
 generalize args[1]? = p at h1 ⊢
 generalize args'[1]? = p' at h1 ⊢
 generalize ts[1]? = t1 at hn ⊢
 cases ts[0]? with
 | none => exact .stuck
 | some st =>
  cases h0 with
  | none => exact .stuck
  | some hs =>
   cases h1 with
   | none => exact .stuck
   | some hx =>
    refine .under fun d hd => ?_
    cases d <;> try exact .stuck
    rename_i elem
    have hs0 := hs
    cases hs <;> try exact .stuck
    all_goals
     refine (BL _).eq fun size => ?_
     rcases t1 with _ | xt
     all_goals try
      refine SR.under fun d2 hd2 => ?_
      have hb : (match (generalizing := false) d2 with | TypeDesc.int _ => true | _ => false) = false := by cases d2 <;> first | rfl | exact absurd hd2 (hn _ _ rfl)
      refine SR.at (R := fun a b => a = false ∧ b = false) (s := Pure.pure (match (generalizing := false) d2 with | TypeDesc.int _ => true | _ => false)) (s' := Pure.pure (match (generalizing := false) d2 with | TypeDesc.int _ => true | _ => false)) (.ret ⟨rfl, hb, hb⟩) fun b b' e => ?_
      obtain ⟨rfl, rfl⟩ := e
    all_goals
     refine (KL hx).eq fun n => ?_
     dsimp only
     split
     ·refine (CF _ _ hx).at fun c c' hc => ?_
      first
       | exact .ret (.slice0 _ _)
       | exact (CE (AdR.add (by assumption) _) 0 hc.lr).at fun _ _ _ => .ret (.slice _ _ (by assumption))
     ·refine .info fun i hi => ?_
      split
      ·exact .rtB
      ·refine .info fun i2 hi2 => ?_
       split
       ·simp only [Bool.false_eq_true, if_false]
        exact .dead ((L6 _ _ _ _ _ _ fun b => by cases b <;> first | exact .mark (BQ (by simp)) | exact BQ (by simp)).bind _)
       ·exact .chooses fun cap => .info fun i3 hi3 => (He _).at fun _ _ _ => (CF _ _ hs0).at fun old old' ho => (CF _ _ hx).at fun new new' hw => (D8 hz _).at fun z z' hz' =>
         (Dt _ ((ho.app hw).app (hz'.cells.zeroCells _))).bind fun π' a a' hle hq => .ret (.slice _ _ hq.1)
theorem SR.iteS {α β : Type} {Q : Ren → α → β → Prop} {c : Prop} [Decidable c] {a b : Sem α} {a' b' : Sem β} (h1 : c → SR P F Q π a a') (h2 : ¬ c → SR P F Q π b b') : SR P F Q π (if c then a else b) (if c then a' else b') := by
 by_cases h : c
 ·rw [if_pos h, if_pos h]; exact h1 h
 ·rw [if_neg h, if_neg h]; exact h2 h
theorem Qc (hz : FH P) {args args' : Array Value} (h : AR (VR F π) args args') (ts : Array TypeId) (t : TypeId) {xt : TypeId} {k : IntKind} (hn : ts[1]? = some xt) (hk : P.underlying xt = some (.int k)) :
  SR P F (fun π => VR F π) π (Builtin.append_ ts t args) (Builtin.append_ ts t args') := by
 unfold Builtin.append_
 have h0 := h.opt 0
 have h1 := h.opt 1
 generalize args[0]? = o at h0 ⊢
 generalize args'[0]? = o' at h0 ⊢
 generalize args[1]? = p at h1 ⊢
 generalize args'[1]? = p' at h1 ⊢
 rw [hn]
 cases ts[0]? with
 | none => exact .stuck
 | some st =>
  cases h0 with
  | none => exact .stuck
  | some hs =>
   cases h1 with
   | none => exact .stuck
   | some hx =>
    refine .under fun d hd => ?_
    cases d <;> try exact .stuck
    rename_i elem
    have hs0 := hs
    cases hs <;> try exact .stuck
    all_goals
     refine (BL _).eq fun size => ?_
     refine SR.under fun d2 hd2 => ?_
     rw [hk] at hd2
     injection hd2 with hd2
     subst hd2
     refine SR.at (R := fun a b => a = true ∧ b = true) (s := Pure.pure true) (s' := Pure.pure true) (.ret ⟨rfl, rfl, rfl⟩) fun b b' e => ?_
     obtain ⟨rfl, rfl⟩ := e
     simp only [if_true, Bool.not_true, Bool.false_eq_true, if_false]
     have hap : ∀ n : Nat, SR P F (At π (AR (VR F π))) π (if n * size = 0 then pure #[] else do pure (Builtin.zeroCells (← zeroValue elem).cells n) : Sem (Array Value)) (if n * size = 0 then pure #[] else do pure (Builtin.zeroCells (← zeroValue elem).cells n) : Sem (Array Value)) := by
      intro n
      split
      ·exact .ret ⟨rfl, .nil⟩
      ·exact (D8 hz _).at fun z z' hz' => .ret ⟨rfl, hz'.cells.zeroCells _⟩
     refine (Jc hx).eq fun iv => ?_
     refine .iteS (fun _ => .rtB) fun _ => ?_
     ·refine .info fun i hi => ?_
      refine .iteS (fun _ => .chooses fun m => .rtB) fun _ => ?_
      ·refine SR.eq (s := Pure.pure (IntKind.i64.wrap iv).toNat) (s' := Pure.pure (IntKind.i64.wrap iv).toNat) (.ret ⟨rfl, rfl⟩) fun n => ?_
       refine .iteS (fun _ => ?_) fun _ => ?_
       ·refine (hap n).at fun c c' hc => ?_
        first
         | exact .ret (.slice0 _ _)
         | exact (CE (AdR.add (by assumption) _) 0 hc.lr).at fun _ _ _ => .ret (.slice _ _ (by assumption))
       ·refine .info fun i hi => ?_
        refine .iteS (fun _ => .rtB) fun _ => ?_
        ·refine .info fun i2 hi2 => ?_
         refine .iteS (fun _ => .rtB) fun _ => ?_
         ·exact .chooses fun cap => .info fun i3 hi3 => (He _).at fun _ _ _ => (CF _ _ hs0).at fun old old' ho => (hap n).at fun new new' hw => (D8 hz _).at fun z z' hz' =>
           (Dt _ ((ho.app hw).app (hz'.cells.zeroCells _))).bind fun π' a a' hle hq => .ret (.slice _ _ hq.1)
theorem YK {args args' : Array Value} (h : AR (VR F π) args args') (ts : Array TypeId) (t : TypeId) : SR P F (At π (VR F π)) π (Builtin.cap_ ts t args) (Builtin.cap_ ts t args') := by
 unfold Builtin.cap_
 have h0 := h.opt 0
 generalize args[0]? = o at h0 ⊢
 generalize args'[0]? = o' at h0 ⊢
 cases ts[0]? with
 | none => exact .stuck
 | some xt =>
  cases h0 with
  | none => exact .stuck
  | some hx =>
   refine .under fun d hd => ?_
   split
   case h_1 => cases hx <;> exact .ret ⟨rfl, .int _ _⟩
   case h_2 => exact .under fun d2 hd2 => by cases d2 <;> first | exact .stuck | exact .ret ⟨rfl, .int _ _⟩
   case h_3 => cases hx <;> exact .ret ⟨rfl, .int _ _⟩
   case h_4 => cases hx; exact .ret ⟨rfl, .int _ _⟩
   case h_5 =>
    cases hx with
    | chan hr => exact .gets hr fun o o' ho => by cases ho <;> exact .stuck
   case h_6 => exact .stuck
theorem WH {args args' : Array Value} (h : AR (VR F π) args args') (ts : Array TypeId) (t : TypeId) : SR P F (At π (VR F π)) π (Builtin.copy_ ts t args) (Builtin.copy_ ts t args') := by
 unfold Builtin.copy_
 have h0 := h.opt 0
 have h1 := h.opt 1
 generalize args[0]? = o at h0 ⊢
 generalize args'[0]? = o' at h0 ⊢
 generalize args[1]? = p at h1 ⊢
 generalize args'[1]? = p' at h1 ⊢
 cases ts[0]? with
 | none => exact .stuck
 | some st =>
  cases h0 with
  | none => exact .stuck
  | some hs =>
   cases h1 with
   | none => exact .stuck
   | some hx =>
    refine .under fun d hd => ?_
    cases d <;> try exact .stuck
    cases hs <;> try exact .stuck
    ·exact (KL hx).eq fun n => (BL _).eq fun size => (CF _ _ hx).at fun c c' hc => .ret ⟨rfl, .int _ _⟩
    ·rename_i ha
     exact (KL hx).eq fun n => (BL _).eq fun size => (CF _ _ hx).at fun c c' hc => (CE ha 0 hc.lr).at fun _ _ _ => .ret ⟨rfl, .int _ _⟩
theorem TS (hz : FH P) {args args' : Array Value} (h : AR (VR F π) args args') (ts : Array TypeId) (t : TypeId) : SR P F (At π (VR F π)) π (Builtin.clear_ ts t args) (Builtin.clear_ ts t args') := by
 unfold Builtin.clear_
 have hr : SR P F (At π (VR F π)) π (pure (.tuple #[]) : Sem Value) (pure (.tuple #[]) : Sem Value) := .ret ⟨rfl, .tuple' .nil⟩
 have h0 := h.opt 0
 generalize args[0]? = o at h0 ⊢
 generalize args'[0]? = o' at h0 ⊢
 cases ts[0]? with
 | none => exact .stuck
 | some st =>
  cases h0 with
  | none => exact .stuck
  | some hx =>
   refine .under fun d hd => ?_
   cases hx with
   | map0 => cases d <;> exact hr
   | slice0 l c => cases d <;> exact hr
   | map hm => cases d <;> (refine .gets hm fun o o' ho => ?_; cases ho <;> first | exact .stuckB | exact .sets hm (.map _ .nil) hr)
   | slice l c ha =>
    rcases l with _ | l
    ·cases d <;> exact hr
    ·cases d <;> first
      | exact .stuckB
      | exact (D8 hz _).at fun z z' hz' => (CE ha 0 (AR.zeroCells hz'.cells _).lr).at fun _ _ _ => hr
   | _ => cases d <;> exact .stuckB
theorem RX (hG : P.globals.size ≤ π.base) {args args' : Array Value} (h : AR (VR F π) args args') (ts : Array TypeId) (t : TypeId) : SR P F (At π (VR F π)) π (Builtin.delete_ ts t args) (Builtin.delete_ ts t args') := by
 unfold Builtin.delete_
 have hr : SR P F (At π (VR F π)) π (pure (.tuple #[]) : Sem Value) (pure (.tuple #[]) : Sem Value) := .ret ⟨rfl, .tuple' .nil⟩
 have h0 := h.opt 0
 have h1 := h.opt 1
 generalize args[0]? = o at h0 ⊢
 generalize args'[0]? = o' at h0 ⊢
 generalize args[1]? = p at h1 ⊢
 generalize args'[1]? = p' at h1 ⊢
 cases ts[0]? with
 | none => exact .stuck
 | some st =>
  cases h0 with
  | none => exact .stuck
  | some hm =>
   cases h1 with
   | none => exact .stuck
   | some hk =>
    refine .under fun d hd => ?_
    cases d <;> try exact .stuck
    cases hm with
    | map0 => exact (CQ _ _ _ hk).at fun _ _ _ => hr
    | map hm =>
     refine .gets hm fun o o' ho => ?_
     cases ho <;> try exact .stuckB
     rename_i es es' n he
     have e1 : es'.isEmpty = es.isEmpty := by unfold Array.isEmpty; rw [he.1]
     dsimp only
     rw [e1]
     refine (CQ _ _ _ hk).at fun _ _ _ => (Hd hG _ hk he.lr).at fun f f' hf => ?_
     cases hf with
     | none => exact .sets hm (.map _ he) hr
     | some h =>
      rename_i p p'
      obtain ⟨i, u⟩ := p; obtain ⟨i', u'⟩ := p'
      obtain ⟨e, h⟩ := h
      dsimp only at e h
      subst e
      exact .sets hm (.map _ (he.erase i)) hr
    | _ => exact .stuckB
theorem WE {x x' y y' : Value} (hx : VR F π x x') (hy : VR F π y y') : SR P F (At π (VR F π)) π (Builtin.min2 x y) (Builtin.min2 x' y') := by
 unfold Builtin.min2
 split
 all_goals try exact .stuck
 all_goals try exact .unsup
 ·cases hx; cases hy; exact .ret ⟨rfl, .int _ _⟩
 ·cases hx
 ·cases hx; cases hy
  exact (Gy (Ky _ _ _)).at fun v v' hv => (Ny hv).eq fun b => by cases b <;> exact .ret ⟨rfl, .string _⟩
theorem WF {x x' y y' : Value} (hx : VR F π x x') (hy : VR F π y y') : SR P F (At π (VR F π)) π (Builtin.max2 x y) (Builtin.max2 x' y') := by
 unfold Builtin.max2
 split
 all_goals try exact .stuck
 all_goals try exact .unsup
 ·cases hx; cases hy; exact .ret ⟨rfl, .int _ _⟩
 ·cases hx
 ·cases hx; cases hy
  exact (Gy (Ky _ _ _)).at fun v v' hv => (Ny hv).eq fun b => by cases b <;> exact .ret ⟨rfl, .string _⟩
theorem KM {f : Value → Value → Sem Value} (h : ∀ {x x' y y' : Value}, VR F π x x' → VR F π y y' → SR P F (At π (VR F π)) π (f x y) (f x' y')) : ∀ {l l' : List Value}, LR (VR F π) l l' → ∀ {x x' : Value}, VR F π x x' → SR P F (At π (VR F π)) π (l.foldlM f x) (l'.foldlM f x')
 | _, _, .nil, _, _, hx => .ret ⟨rfl, hx⟩
 | _, _, .cons hy t, _, _, hx => by
  rw [List.foldlM_cons, List.foldlM_cons]
  exact (h hx hy).at fun v v' hv => KM h t hv
theorem YH {args args' : Array Value} (h : AR (VR F π) args args') (ts : Array TypeId) (t : TypeId) : SR P F (At π (VR F π)) π (Builtin.min_ ts t args) (Builtin.min_ ts t args') := by
 unfold Builtin.min_
 have := h.lr
 generalize args.toList = l at this ⊢
 generalize args'.toList = l' at this ⊢
 cases this with
 | nil => exact .stuck
 | cons hx t => exact KM WE t hx
theorem YI {args args' : Array Value} (h : AR (VR F π) args args') (ts : Array TypeId) (t : TypeId) : SR P F (At π (VR F π)) π (Builtin.max_ ts t args) (Builtin.max_ ts t args') := by
 unfold Builtin.max_
 have := h.lr
 generalize args.toList = l at this ⊢
 generalize args'.toList = l' at this ⊢
 cases this with
 | nil => exact .stuck
 | cons hx t => exact KM WF t hx
end
inductive FK (P : Program) (F : FuncId → Prop) (π : Ren) : Next → Next → Prop where
 | value {v v' : Value} : VR F π v v' → FK P F π (.value v) (.value v')
 | skip : FK P F π .skip .skip
 | enter {f : FuncId} {args args' : Array Value} : F f → (∃ fn c, P.funcs[f]? = some fn ∧ fn.body = some c) → AR (VR F π) args args' → FK P F π (.enter f args) (.enter f args')
structure Okay (P : Program) (F : FuncId → Prop) (I : String → Prop) : Prop where
 zeros : FH P
 funcs : ∀ f, F f → ∃ fn, P.funcs[f]? = some fn ∧ (fn.name == "runtime.NumGoroutine") = false ∧
  (fn.body.isSome = true ∨ ∀ π args args', P.globals.size ≤ π.base → AR (VR F π) args args' → SR P F (FK P F) π (callFunc f args) (callFunc f args'))
 meths : ∀ name, I name → ∀ t i, P.info? t = some i → ∀ m ∈ i.methods, m.name = name → ∀ f b, m.func = some (f, b) → F f
inductive PlR (F : FuncId → Prop) (π : Ren) : Place → Place → Prop where
 | val {v v' : Value} : VR F π v v' → PlR F π (.val v) (.val v')
 | var {a a' : Addr} : AdR π a a' → PlR F π (.var a) (.var a')
inductive TgR (F : FuncId → Prop) (I : String → Prop) (π : Ren) : Target → Target → Prop where
 | fn {f : FuncId} {c c' : Array Value} : F f → AR (VR F π) c c' → TgR F I π (.fn (.func f) c) (.fn (.func f) c')
 | method {n : String} : I n → TgR F I π (.fn (.method n) #[]) (.fn (.method n) #[])
 | nil : TgR F I π .nil .nil
section
variable {P : Program} {F : FuncId → Prop} {I : String → Prop} {π : Ren}
theorem SR.forLR {γ γ' δ : Type} {R : γ → γ' → Prop} {g : γ → δ → Sem (ForInStep δ)} {g' : γ' → δ → Sem (ForInStep δ)} (h : ∀ a a' b, R a a' → SR P F (At π Eq) π (g a b) (g' a' b)) : ∀ {l : List γ} {l' : List γ'}, LR R l l' → ∀ b : δ, SR P F (At π Eq) π (forIn l b g) (forIn l' b g')
 | _, _, .nil, b => by rw [List.forIn_nil, List.forIn_nil]; exact .ret ⟨rfl, rfl⟩
 | _, _, .cons hx t, b => by
  rw [List.forIn_cons, List.forIn_cons]
  refine (h _ _ b hx).eq fun s => ?_
  cases s with
  | done b => exact .ret ⟨rfl, rfl⟩
  | yield b => exact SR.forLR h t b
theorem SR.forAR {γ γ' δ : Type} {R : γ → γ' → Prop} {g : γ → δ → Sem (ForInStep δ)} {g' : γ' → δ → Sem (ForInStep δ)} (h : ∀ a a' b, R a a' → SR P F (At π Eq) π (g a b) (g' a' b)) {l : Array γ} {l' : Array γ'} (hl : AR R l l') (b : δ) : SR P F (At π Eq) π (forIn l b g) (forIn l' b g') := by
 rw [← Array.forIn_toList, ← Array.forIn_toList]; exact SR.forLR h hl.lr b
theorem Jd {x x' : Value} (hx : VR F π x x') : SR P F (At π (VR F π)) π (Conv.bytesToString x) (Conv.bytesToString x') := by
 unfold Conv.bytesToString
 cases hx with
 | slice0 l c => exact .ret ⟨rfl, .string _⟩
 | slice l c ha =>
  refine (Es ha l).at fun c c' hc => SR.eq (SR.forAR (fun a a' b hab => ?_) hc _) fun s => .ret ⟨rfl, .string _⟩
  cases hab <;> try exact .stuck
  rename_i k n
  cases k <;> first | exact .stuck | exact .ret ⟨rfl, rfl⟩
 | _ => exact .stuck
theorem I8 {x x' : Value} (hx : VR F π x x') : SR P F (At π (VR F π)) π (Conv.runesToString x) (Conv.runesToString x') := by
 unfold Conv.runesToString
 cases hx with
 | slice0 l c => exact .ret ⟨rfl, .string _⟩
 | slice l c ha =>
  refine (Es ha l).at fun c c' hc => SR.eq (SR.forAR (fun a a' b hab => ?_) hc _) fun s => .ret ⟨rfl, .string _⟩
  cases hab <;> try exact .stuck
  rename_i k n
  cases k <;> first | exact .stuck | exact .ret ⟨rfl, rfl⟩
 | _ => exact .stuck
theorem I9 {a a' : Addr} (ha : AdR π a a') (ho : π.own a.block) : SR P F (At π fun _ _ => True) π (markStringish a) (markStringish a') := by
 unfold markStringish
 refine .shapes ha.1 fun s => ?_
 cases s with
 | none => exact .ret ⟨rfl, trivial⟩
 | some s => exact .freeze ⟨ha.1, rfl, rfl⟩ ho (.pure ⟨rfl, trivial⟩)
theorem I7 (e : TypeId) (s : ByteArray) : SR P F (fun π => VR F π) π (Conv.stringToBytes e s) (Conv.stringToBytes e s) := by
 unfold Conv.stringToBytes
 refine .chooses fun cap => SR.bind (Dt e ((AR.same fun b _ => .int _ _).app (AR.rep _ (.int _ _)))) fun π' a a' hle hq => ?_
 exact (I9 hq.1 hq.2).at fun _ _ _ => .ret (.slice _ _ hq.1)
theorem JN (s : ByteArray) : ∀ (b i : Nat) {acc acc' : Array Value}, AR (VR F π) acc acc' → AR (VR F π) (Conv.runesFrom s b i acc) (Conv.runesFrom s b i acc')
 | 0, _, _, _, h => h
 | b + 1, i, _, _, h => by
  unfold Conv.runesFrom
  split
  ·exact JN s b _ (h.push (.int _ _))
  ·exact h
theorem I6 (e : TypeId) (s : ByteArray) : SR P F (fun π => VR F π) π (Conv.stringToRunes e s) (Conv.stringToRunes e s) := by
 unfold Conv.stringToRunes
 refine .chooses fun cap => SR.bind (Dt e ((JN s _ _ .nil).app (AR.rep _ (.int _ _)))) fun π' a a' hle hq => ?_
 exact .ret (.slice _ _ hq.1)
def Qy (P : Program) (s d : TypeId) : Bool := match P.underlying s, P.underlying d with
 | some (.int _), some (.int _) | some (.int _), some .string | some .string, some .string | some .string, some (.slice _) | some (.slice _), some .string => true
 | _, _ => false
theorem Qa (s d : TypeId) (hc : Qy P s d = true) {x x' : Value} (hx : VR F π x x') : SR P F (fun π => VR F π) π (convert s d x) (convert s d x') := by
 unfold convert
 unfold Qy at hc
 refine .under fun ds hs => .under fun dd hd => ?_
 rw [hs, hd] at hc
 cases ds <;> cases dd <;> first
  | (simp at hc; done)
  | skip
 ·cases hx <;> first
   | exact .unsup
   | exact .ret (.int _ _)
 ·cases hx <;> first
   | exact .unsup
   | exact .ret (.string _)
 ·cases hx <;> first
   | exact .unsup
   | exact .ret (.string _)
 ·cases hx <;> first
   | exact .unsup
   | skip
  refine .under fun de he => ?_
  cases de <;> try exact .stuck
  rename_i k
  cases k <;> first
   | exact .stuck
   | exact I7 _ _
   | exact I6 _ _
 ·have h0 := hx
  cases hx
  case hole =>
   refine .dead (FT fun de => ?_)
   cases de <;> first
    | exact Be _
    | (rename_i k; cases k <;> exact Be _)
  all_goals try exact .ret (.string _)
  all_goals
   refine .under fun de he => ?_
   cases de <;> try exact .stuck
   rename_i k
   cases k <;> first
    | exact .stuck
    | exact Bh (Jd h0)
    | exact Bh (I8 h0)
end
section
variable {P : Program} {F : FuncId → Prop} {I : String → Prop} {π : Ren}
theorem Ha (t : TypeId) {x x' : Place} (h : PlR F π x x') : SR P F (At π (VR F π)) π (x.get t) (x'.get t) := by
 cases h with
 | val h => exact .ret ⟨rfl, h⟩
 | var h => exact EF t h
theorem Gz : ∀ (l : List FieldStep) (t : TypeId) {x x' : Place}, PlR F π x x' → SR P F (At π fun p p' => p.1 = p'.1 ∧ PlR F π p.2 p'.2) π (follow l t x) (follow l t x')
 | [], t, _, _, h => .ret ⟨rfl, rfl, h⟩
 | s :: rest, t, x, x', h => by
  unfold follow
  refine .under fun d hd => ?_
  cases d <;> try exact .stuck
  rename_i fields
  dsimp only
  cases fields[s.index]? with
  | none => exact .stuck
  | some f =>
   dsimp only
   split
   ·exact (Ha t h).at fun v v' hv => (Il hv).at fun a a' ha => (Fa ha f).at fun b b' hb => Gz rest _ (.var hb)
   ·cases h with
    | var ha => exact (Fa ha f).at fun b b' hb => Gz rest _ (.var hb)
    | val hv => cases hv with
     | agg h1 h2 => exact (Er _ ⟨h1, h2⟩ _).at fun u u' hu => Gz rest _ (.val hu)
     | _ => exact .stuck
theorem Pq (t : TypeId) (m : ByteArray) (b : ByteArray) (ts : Array TypeId) : Bc P (Builtin.ssaWrapNilChk_ ts t #[.pointer none, .string b, .string m]) := by
 unfold Builtin.ssaWrapNilChk_
 refine .choose fun n => ?_
 dsimp only
 show Bc P (if _ then _ else _)
 split
 ·exact (CY _).bind _
 ·cases ts[0]? with
  | none => exact Be _
  | some pt =>
   refine FT fun d => ?_
   cases d <;> try exact Be _
   refine Sz fun i => ?_
   split
   ·split
    ·split
     ·exact CY _
     ·exact BQ (by simp)
    ·exact Be _
   ·exact Be _
theorem RP (ts : Array TypeId) (t : TypeId) (s m : String) {x x' : Value} (h : VR F π x x') : SR P F (At π (VR F π)) π (Builtin.ssaWrapNilChk_ ts t #[x, strVal s, strVal m]) (Builtin.ssaWrapNilChk_ ts t #[x', strVal s, strVal m]) := by
 cases h with
 | ptr ha => exact .ret ⟨rfl, .ptr ha⟩
 | ptr0 => exact .dead (Pq _ _ _ _)
 | _ => exact .stuck
theorem LK (t : TypeId) {x x' : Place} (h : PlR F π x x') (b : Bool) (w : Option String) : SR P F (At π (VR F π)) π (receiverAt t x b w) (receiverAt t x' b w) := by
 unfold receiverAt
 refine .under fun d hd => ?_
 have val : ∀ e, SR P F (At π (VR F π)) π (do let ptr ← x.get t; let ptr ← (match w with | some name => Builtin.ssaWrapNilChk_ #[t] t #[ptr, strVal "", strVal name] | none => pure ptr); loadVar e (← asAddr ptr))
   (do let ptr ← x'.get t; let ptr ← (match w with | some name => Builtin.ssaWrapNilChk_ #[t] t #[ptr, strVal "", strVal name] | none => pure ptr); loadVar e (← asAddr ptr)) := by
  intro e
  refine (Ha t h).at fun v v' hv => ?_
  cases w with
  | none => exact (Il hv).at fun a a' ha => EF _ ha
  | some n => exact (RP _ _ _ _ hv).at fun u u' hu => (Il hu).at fun a a' ha => EF _ ha
 cases b with
 | true =>
  cases d
  case pointer e => cases h <;> first | exact Ha t (.val ‹_›) | exact Ha t (.var ‹_›)
  all_goals
   cases h with
   | val h => exact .stuck
   | var h => exact .ret ⟨rfl, .ptr h⟩
 | false =>
  cases d
  case pointer e => cases w <;> cases h <;> exact val e
  all_goals cases h <;> first | exact Ha t (.val ‹_›) | exact Ha t (.var ‹_›)
theorem Mq (K : Okay P F I) (name : String) (hI : I name) : ∀ (fuel : Nat) (t : TypeId) {v v' : Value}, VR F π v v' → SR P F (At π fun p p' => p.1 = p'.1 ∧ F p.1 ∧ VR F π p.2 p'.2) π (method fuel t v name) (method fuel t v' name)
 | 0, _, _, _, _ => .unsup
 | fuel + 1, t, v, v', hv => by
  unfold method
  refine .info fun i hi => ?_
  cases hm : i.methods.find? (·.name == name) with
  | none => exact .stuck
  | some m =>
   have h1 := Array.mem_of_find?_eq_some hm
   have h2 : m.name = name := by simpa using Array.find?_some hm
   refine (Gz m.path.toList t (.val hv)).at fun p p' hp => ?_
   obtain ⟨xt, x⟩ := p; obtain ⟨xt', x'⟩ := p'
   obtain ⟨e, hx⟩ := hp
   dsimp only at e hx
   subst e
   cases hf : m.func with
   | none =>
    refine (Ha xt hx).at fun u u' hu => ?_
    cases hu with
    | iface t2 hu => exact Mq K name hI fuel t2 hu
    | nilIface => exact .rt
    | _ => exact .stuck
   | some q =>
    obtain ⟨f, b⟩ := q
    exact (LK xt hx b _).at fun u u' hu => .ret ⟨rfl, rfl, K.meths name hI t i hi m h1 h2 f b hf, hu⟩
theorem JL (K : Okay P F I) (hG : P.globals.size ≤ π.base) {f : FuncId} (hf : F f) {args args' : Array Value} (ha : AR (VR F π) args args') : SR P F (FK P F) π (callFunc f args) (callFunc f args') := by
 obtain ⟨fn, h1, h2, h3⟩ := K.funcs f hf
 rcases h3 with h3 | h3
 ·unfold callFunc
  refine .prog ?_
  rw [h1]
  have h4 : fn.body.isNone = false := by cases hb : fn.body <;> simp_all
  simp only [h2, h4, Bool.false_eq_true, if_false]
  refine .ret (.enter hf ?_ ha)
  obtain ⟨c, hc⟩ := Option.isSome_iff_exists.1 h3
  exact ⟨fn, c, h1, hc⟩
 ·exact h3 π args args' hG ha
theorem LM (K : Okay P F I) (hG : P.globals.size ≤ π.base) {name : String} (hI : I name) {r r' : Value} (hr : VR F π r r') {args args' : Array Value} (ha : AR (VR F π) args args') : SR P F (FK P F) π (callMethod r name args) (callMethod r' name args') := by
 unfold callMethod
 cases hr with
 | iface t hv =>
  refine .prog ((Mq K name hI _ t hv).at fun p p' hp => ?_)
  obtain ⟨f, x⟩ := p; obtain ⟨f', x'⟩ := p'
  obtain ⟨e, hF, hx⟩ := hp
  dsimp only at e hx hF
  subst e
  exact JL K hG hF ((AR.nil.push hx).app ha)
 | nilIface => exact .rt
 | _ => exact .stuck
theorem Jb (K : Okay P F I) (hG : P.globals.size ≤ π.base) {t t' : Target} (ht : TgR F I π t t') {args args' : Array Value} (ha : AR (VR F π) args args') : SR P F (FK P F) π (invoke t args) (invoke t' args') := by
 unfold invoke
 cases ht with
 | fn hf hc => exact JL K hG hf (ha.app hc)
 | nil => exact .rt
 | method hI =>
  have h0 := ha.opt 0
  dsimp only
  generalize args[0]? = o at h0 ⊢
  generalize args'[0]? = o' at h0 ⊢
  cases h0 with
  | none => exact .stuck
  | some hr =>
   have e := (ha.extract 1 args.size)
   conv at e => rhs; rw [ha.1]
   exact LM K hG hI hr e
def CG : Nat → Value → Bool
 | _, .bool _ | _, .int _ _ | _, .string _ | _, .pointer none | _, .slice none _ _ | _, .map none | _, .chan none | _, .nilFunc | _, .nilIface => true
 | n + 1, .agg c => c.all (CG n)
 | n + 1, .tuple c => c.all (CG n)
 | n + 1, .iface _ v => CG n v
 | _, _ => false
theorem OM : ∀ (n : Nat) (v : Value), CG n v = true → Plain v := by
 have sc : ∀ (n : Nat) (v : Value), (∀ c, v ≠ .agg c) → (∀ c, v ≠ .tuple c) → (∀ t w, v ≠ .iface t w) → CG n v = true → Plain v := by
  intro n v h1 h2 h3 h F π
  cases v with
  | bool b => exact .bool b
  | int k i => exact .int k i
  | string s => exact .string s
  | pointer a => cases a with
   | none => exact .ptr0
   | some a => cases n <;> simp [CG] at h
  | slice a l c => cases a with
   | none => exact .slice0 l c
   | some a => cases n <;> simp [CG] at h
  | map a => cases a with
   | none => exact .map0
   | some a => cases n <;> simp [CG] at h
  | chan a => cases a with
   | none => exact .chan0
   | some a => cases n <;> simp [CG] at h
  | nilFunc => exact .nilFunc
  | nilIface => exact .nilIface
  | agg c => exact absurd rfl (h1 c)
  | tuple c => exact absurd rfl (h2 c)
  | iface t w => exact absurd rfl (h3 t w)
  | float k b => cases n <;> simp [CG] at h
  | complex k a b => cases n <;> simp [CG] at h
  | func f a b => cases n <;> simp [CG] at h
 intro n
 induction n with
 | zero =>
  intro v h
  refine sc 0 v ?_ ?_ ?_ h
  ·rintro c rfl; simp [CG] at h
  ·rintro c rfl; simp [CG] at h
  ·rintro c w rfl; simp [CG] at h
 | succ n ih =>
  intro v h
  have ar : ∀ c : Array Value, c.all (CG n) = true → ∀ F π, AR (VR F π) c c := by
   intro c hc F π
   refine ⟨rfl, fun i x y hx hy => ?_⟩
   have e := hx.symm.trans hy
   injection e with e
   subst e
   rw [Array.all_eq_true_iff_forall_mem] at hc
   exact ih x (hc x (Array.mem_of_getElem? hx)) F π
  by_cases h1 : ∃ c, v = .agg c
  ·obtain ⟨c, rfl⟩ := h1
   exact fun F π => .agg' (ar c h F π)
  by_cases h2 : ∃ c, v = .tuple c
  ·obtain ⟨c, rfl⟩ := h2
   exact fun F π => .tuple' (ar c h F π)
  by_cases h3 : ∃ t w, v = .iface t w
  ·obtain ⟨t, w, rfl⟩ := h3
   exact fun F π => .iface t (ih w h F π)
  exact sc (n + 1) v (fun c e => h1 ⟨c, e⟩) (fun c e => h2 ⟨c, e⟩) (fun t w e => h3 ⟨t, w, e⟩) h
structure Scope where
 fns : FuncId → Bool
 meths : String → Bool
 vars : Nat → Bool
def Scope.x (S : Scope) : Operand → Bool
 | .tmp _ => true
 | .const v => CG 4 v
 | .global g => S.vars g
 | .func f => S.fns f
def Scope.call (S : Scope) (P : Program) (c : Call) : Bool := c.args.all S.x && match c.callee with
 | .value f => S.x f
 | .invoke r m => S.x r && S.meths m
 | .builtin b => match b with
  | .append | .cap | .clear | .copy | .delete | .len | .max | .min => true
  | _ => false
def Scope.op (S : Scope) (P : Program) : Op → Bool
 | .move x | .assign x | .box _ x | .load _ x | .nilCheck x | .unOp _ _ x | .makeInterface _ x | .fieldAddr _ x _ | .field _ x _ | .typeAssert x _ _ _ | .extract x _ | .panic x => S.x x
 | .pick c a b => S.x c && S.x a && S.x b
 | .alloc _ => true
 | .build _ ps | .buildSlice _ _ ps => ps.all fun p => S.x p.2
 | .store _ a v | .makeSlice _ a v | .indexAddr _ a v | .index _ a v | .lookup _ a v _ => S.x a && S.x v
 | .binOp _ t a v _ => S.x a && S.x v && XI P t
 | .convert s d x => S.x x && Qy P s d
 | .makeFunc (.func f) first cap => S.fns f && first.all S.x && cap.all S.x
 | .makeMap _ r => r.all S.x
 | .slice _ x l h m => S.x x && l.all S.x && h.all S.x && m.all S.x
 | .mapUpdate _ m k v | .insert _ m k v => S.x m && S.x k && S.x v
 | .call c => S.call P c
 | _ => false
end
section
variable {P : Program} {S : Scope} {π : Ren}
theorem AR.mapA {α γ δ : Type} {R' : γ → δ → Prop} {f : α → γ} {g : α → δ} {l : Array α} {p : α → Bool} (hl : l.all p = true) (h : ∀ a, p a = true → R' (f a) (g a)) : AR R' (l.map f) (l.map g) :=
 AR.same fun a ha => h a (by rw [Array.all_eq_true_iff_forall_mem] at hl; exact hl a ha)
theorem OR.mapO {α γ δ : Type} {R' : γ → δ → Prop} {f : α → γ} {g : α → δ} {o : Option α} {p : α → Bool} (hl : o.all p = true) (h : ∀ a, p a = true → R' (f a) (g a)) : OR R' (o.map f) (o.map g) := by
 cases o with
 | none => exact .none
 | some a => exact .some (h a hl)
theorem Bd {F : FuncId → Prop} {s s' : Sem Value} (h : SR P F (fun π => VR F π) π s s') : SR P F (FK P F) π (s >>= fun v => pure (.value v)) (s' >>= fun v => pure (.value v)) := h.bind fun π' a b _ r => .ret (.value r)
theorem Nv {F : FuncId → Prop} {s s' : Sem Unit} (h : SR P F (At π fun _ _ => True) π s s') : SR P F (FK P F) π (s >>= fun _ => pure .skip) (s' >>= fun _ => pure .skip) := h.at fun _ _ _ => .ret .skip
variable {F : FuncId → Prop} {I : String → Prop}
theorem Qb (K : Okay P F I) (hG : P.globals.size ≤ π.base) {b : Builtin} {ts : Array TypeId} {t : TypeId} {cs : Array Bool} {args args' : Array Value} (ha : AR (VR F π) args args')
  (hb : (match b with
   | .append | .cap | .clear | .copy | .delete | .len | .max | .min => true
   | _ => false) = true) : SR P F (FK P F) π (builtin b ts t cs args) (builtin b ts t cs args') := by
 unfold builtin
 cases b
 all_goals first
  | (simp at hb; done)
  | skip
 case append =>
  by_cases hm : ∃ xt k, ts[1]? = some xt ∧ P.underlying xt = some (.int k)
  ·obtain ⟨xt, k, h1, h2⟩ := hm
   exact Bd (Qc K.zeros ha ts t h1 h2)
  ·exact Bd (RY K.zeros ha ts t fun xt k e1 e2 => hm ⟨xt, k, e1, e2⟩)
 case cap => exact Bd (Bh (YK ha ts t))
 case clear => exact Bd (Bh (TS K.zeros ha ts t))
 case copy => exact Bd (Bh (WH ha ts t))
 case delete => exact Bd (Bh (RX hG ha ts t))
 case len => exact Bd (Bh (YJ ha ts t))
 case max => exact Bd (Bh (YI ha ts t))
 case min => exact Bd (Bh (YH ha ts t))
theorem WI (K : Okay P F I) (hG : P.globals.size ≤ π.base) (hI : ∀ m, S.meths m = true → I m) {ρ ρ' : Operand → Value} (hρ : ∀ x, S.x x = true → VR F π (ρ x) (ρ' x)) (c : Call) (t : TypeId) (hc : S.call P c = true) :
  SR P F (FK P F) π (do let d ← resolve ρ c t; invoke d.target d.args) (do let d ← resolve ρ' c t; invoke d.target d.args) := by
 unfold resolve
 unfold Scope.call at hc
 rw [Bool.and_eq_true] at hc
 obtain ⟨h1, h2⟩ := hc
 have ha : AR (VR F π) (c.args.map ρ) (c.args.map ρ') := AR.mapA h1 hρ
 cases hcal : c.callee with
 | value f =>
  rw [hcal] at h2
  have hv := hρ f h2
  dsimp only
  generalize ρ f = v at hv ⊢
  generalize ρ' f = v' at hv ⊢
  cases hv with
  | func hf h3 h4 h5 h6 => cases hf with
   | func hf => exact Jb (I := I) K hG (.fn hf ⟨h5, h6⟩) (AR.app ⟨h3, h4⟩ ha)
  | nilFunc => exact Jb (I := I) K hG .nil ha
  | meth =>
   rename_i n n' a1 c1
   refine .dead ?_
   show Bc P (invoke (.fn (.method n) #[]) (#[.nilIface] ++ Array.map ρ c.args))
   unfold invoke
   have e : (#[Value.nilIface] ++ Array.map ρ c.args)[0]? = some .nilIface := by
    rw [Array.getElem?_append_left (by simp)]; rfl
   dsimp only
   rw [e]
   show Bc P (callMethod .nilIface n _)
   unfold callMethod
   exact CY _
  | _ => exact .stuckB
 | invoke r m =>
  rw [hcal] at h2
  rw [Bool.and_eq_true] at h2
  exact Jb K hG (.method (hI m h2.2)) ((AR.nil.push (hρ r h2.1)).app ha)
 | builtin b =>
  rw [hcal] at h2
  exact Qb K hG ha h2
theorem RV (K : Okay P F I) (hG : P.globals.size ≤ π.base) (hI : ∀ m, S.meths m = true → I m) (hF : ∀ f, S.fns f = true → F f) {ρ ρ' : Operand → Value} (hρ : ∀ x, S.x x = true → VR F π (ρ x) (ρ' x)) (o : Oper) (ho : S.op P o.op = true) :
  SR P F (FK P F) π (execOp ρ o) (execOp ρ' o) := by
 unfold execOp
 dsimp only
 cases hop : o.op
 all_goals
  rw [hop] at ho
  simp only [Scope.op, Bool.and_eq_true, Bool.false_eq_true] at ho
 case move x => exact .ret (.value (hρ x ho))
 case assign x => exact .ret (.value (hρ x ho))
 case pick c a b =>
  refine (Ny (hρ c ho.1.1)).eq fun q => ?_
  cases q with
  | true => exact .ret (.value (hρ a ho.1.2))
  | false => exact .ret (.value (hρ b ho.2))
 case alloc e => exact Bd (TW K.zeros e)
 case box e x => exact Bd (YL e (hρ x ho))
 case build t ps => exact Bd (Bh (TT K.zeros t (AR.mapA ho fun p hp => ⟨rfl, hρ _ hp⟩)))
 case buildSlice t n ps => exact Bd (LP K.zeros t n (AR.mapA ho fun p hp => ⟨rfl, hρ _ hp⟩))
 case load t a => exact Bd (Bh (RU t (hρ a ho)))
 case store t a x => exact Nv (PX t (hρ a ho.1) (hρ x ho.2))
 case nilCheck x =>
  have hx := hρ x ho
  dsimp only
  generalize ρ x = v at hx ⊢
  generalize ρ' x = v' at hx ⊢
  cases hx with
  | ptr0 => exact .rt
  | nilIface => exact .rt
  | nilFunc => exact .rt
  | func hf h1 h2 h3 h4 => cases hf with
   | func hf => exact .ret (.value (.func (.func hf) h1 h2 h3 h4))
  | bool b => exact .ret (.value (.bool b))
  | int k n => exact .ret (.value (.int k n))
  | string s => exact .ret (.value (.string s))
  | ptr h => exact .ret (.value (.ptr h))
  | slice0 l c => exact .ret (.value (.slice0 l c))
  | slice l c h => exact .ret (.value (.slice l c h))
  | map0 => exact .ret (.value .map0)
  | map h => exact .ret (.value (.map h))
  | chan0 => exact .ret (.value .chan0)
  | chan h => exact .ret (.value (.chan h))
  | iface t ih => exact .ret (.value (.iface t ih))
  | agg h ih => exact .ret (.value (.agg h ih))
  | tuple h ih => exact .ret (.value (.tuple h ih))
  | hole h1 h2 h3 h4 =>
   have hh : VR F π (.tuple #[]) v' := .hole h1 h2 h3 h4
   obtain ⟨g1, g2, g3, g4⟩ := h4
   cases v' with
   | pointer a => cases a with
    | none => exact absurd rfl g1
    | some a => exact .ret (.value hh)
   | nilIface => exact absurd rfl g2
   | nilFunc => exact absurd rfl g3
   | func fn a c => cases fn with
    | method n => exact absurd rfl (g4 _ _ _)
    | _ => exact .ret (.value hh)
   | _ => exact .ret (.value hh)
  | meth => exact .rt
 case binOp op t x y yt => exact Bd (P6 hG op t x y (hρ x ho.1.1) (hρ y ho.1.2) ho.2)
 case unOp op t x => exact Bd (Bh (TK op (hρ x ho)))
 case convert s d x => exact Bd (Qa s d ho.2 (hρ x ho.1))
 case makeInterface t x => exact Bd (Bh (Ja t (hρ x ho)))
 case makeFunc fn first cap =>
  cases fn with
  | func f =>
   simp only [Bool.and_eq_true] at ho
   exact .ret (.value (.func' (.func (hF f ho.1.1)) (AR.mapA ho.1.2 hρ) (AR.mapA ho.2 hρ)))
  | _ => simp at ho
 case makeMap t r => exact Bd (PZ t (OR.mapO ho hρ))
 case makeSlice t l c => exact Bd (Nw K.zeros t (hρ l ho.1) (hρ c ho.2))
 case slice t x l h m => exact Bd (Bh (PY t (hρ x ho.1.1.1) (OR.mapO ho.1.1.2 hρ) (OR.mapO ho.1.2 hρ) (OR.mapO ho.2 hρ)))
 case fieldAddr t x n => exact Bd (Bh (P7 t (hρ x ho) n))
 case field t x n => exact Bd (Bh (TP t (hρ x ho) n))
 case indexAddr t x i => exact Bd (Bh (P5 t (hρ x ho.1) (hρ i ho.2)))
 case index t x i => exact Bd (Bh (TN t (hρ x ho.1) (hρ i ho.2)))
 case lookup t x i ok => exact Bd (Bh (RS K.zeros hG t (hρ x ho.1) (hρ i ho.2) ok))
 case mapUpdate t m k v => exact Nv (Ij hG t (hρ m ho.1.1) (hρ k ho.1.2) (hρ v ho.2))
 case insert t m k v => exact Nv (Ij hG t (hρ m ho.1.1) (hρ k ho.1.2) (hρ v ho.2))
 case typeAssert x xt t ok => exact Bd (Bh (LJ K.zeros (hρ x ho) xt t ok))
 case extract x i => exact Bd (Bh (P8 (hρ x ho) i))
 case call c => exact WI K hG hI hρ c o.type ho
 case panic x => exact Bd (TM (hρ x ho))
end
def Scope.code (S : Scope) (P : Program) : Code → Bool
 | .skip | .ret | .exit _ | .label _ => true
 | .region _ ops _ => ops.all fun o => S.op P o.op
 | .seq a b => S.code P a && S.code P b
 | .cond c a b => S.x c && S.code P a && S.code P b
 | .block _ c | .loop c | .scope c => S.code P c
 | _ => false
def Scope.item (S : Scope) (P : Program) : Item → Bool
 | .code c | .inLoop c | .inScope c => S.code P c
 | .inBlock _ => true
 | .inRegion ops l => l.all fun i => match ops[i]? with | some o => S.op P o.op | none => true
 | _ => false
structure PK (P : Program) (S : Scope) : Prop extends Okay P (fun f => S.fns f = true) (fun m => S.meths m = true) where
 code : ∀ f fn c, S.fns f = true → P.funcs[f]? = some fn → fn.body = some c → S.code P c = true
def fm (f : FuncId) (t : Array Value) (todo : List Item) : Frame := (base f).at ⟨t, []⟩ todo
def fmR (f : FuncId) (t : Array Value) (todo : List Item) : Frame := { fm f t todo with mode := .returning }
def sent : Frame := { fn := 0, tmps := #[], todo := [.code (.refuse "")], defers := [{ target := .builtin .make #[] 0 #[], args := #[] }], mode := .run, kind := .normal }
section
variable {P : Program} {S : Scope}
def mkI : Item := .code (.refuse "")
def Nk (fr : Frame) : Prop := fr.mode ≠ .returning ∧ (fr.mode = .run → fr.todo ≠ [mkI])
def PH (P : Program) (m : Machine) : Prop := ∀ n fr w, runN P n m = .next (lone fr [sent] w) → Nk fr
theorem FB {fr fr' : Frame} {cs cs' : List Frame} {w w' : World} (h : lone fr cs w = lone fr' cs' w') : fr = fr' ∧ cs = cs' ∧ w = w' := by
 simp only [lone, Machine.mk.injEq, Array.mk.injEq, List.cons.injEq, Goroutine.mk.injEq] at h
 exact ⟨h.2.1.1.1, h.2.1.1.2.1, h.1⟩
theorem DZ {fr : Frame} {cs : List Frame} {w : World} {o : Outcome} {w' : World} (h : step P (lone fr cs w) = .ended o w') (hn : Nk fr ∨ cs ≠ [sent]) : PH P (lone fr cs w) := by
 intro n fr2 w2 hr
 cases n with
 | zero =>
  simp only [runN, Stepped.next.injEq] at hr
  obtain ⟨rfl, h2, _⟩ := FB hr
  exact hn.elim id fun h => absurd h2 h
 | succ n =>
  simp only [runN, h] at hr
  exact absurd hr (by simp)
theorem Jo {fr : Frame} {cs : List Frame} {w : World} {m : Machine} (h : step P (lone fr cs w) = .next m) (hn : Nk fr ∨ cs ≠ [sent]) (hl : PH P m) : PH P (lone fr cs w) := by
 intro n fr2 w2 hr
 cases n with
 | zero =>
  simp only [runN, Stepped.next.injEq] at hr
  obtain ⟨rfl, h2, _⟩ := FB hr
  exact hn.elim id fun h => absurd h2 h
 | succ n =>
  simp only [runN, h] at hr
  exact hl n fr2 w2 hr
def Wt (fr : Frame) : Prop := fr.defers = [] ∧ ∃ fn, P.funcs[fr.fn]? = some fn
theorem K6 {chain : List PanicEntry} : ∀ {cs : List Frame} {fr : Frame} {w : World}, Wt (P := P) fr → fr.mode = .panicking chain → (∀ c ∈ cs, Wt (P := P) c ∧ c.mode = .run) → PH P (lone fr (cs ++ [sent]) w)
 | [], fr, w, ⟨hd, fn, hf⟩, hm, _ => by
  have h1 : step P (lone fr ([] ++ [sent]) w) = .next (lone (sent.raise chain) [] w) := step_lone_go (by simp [stepG, unwind, Frame.catches, hm, hd, hf])
  refine Jo h1 (.inl ⟨by rw [hm]; simp, by rw [hm]; simp⟩) (DZ (o := .stuck "make, new: Elab turns them into operations of their own" ((sent.raise chain).pos P)) (w' := w) ?_ (.inr (by simp)))
  exact step_lone_ended (by
   simp only [stepG, unwind, sent, Frame.raise]
   rfl)
 | c :: cs, fr, w, ⟨hd, fn, hf⟩, hm, hc => by
  obtain ⟨⟨hcd, fn', hcf⟩, hcm⟩ := hc c (List.mem_cons_self)
  have h1 : step P (lone fr (c :: cs ++ [sent]) w) = .next (lone (c.raise chain) (cs ++ [sent]) w) := step_lone_go (by simp [stepG, unwind, Frame.catches, hm, hd, hf])
  refine Jo h1 (.inl ⟨by rw [hm]; simp, by rw [hm]; simp⟩) (K6 (chain := chain) ⟨?_, fn', ?_⟩ ?_ fun c' hc' => hc c' (List.mem_cons_of_mem _ hc'))
  ·simp [Frame.raise, hcm, hcd]
  ·simp [Frame.raise, hcm, hcf]
  ·simp [Frame.raise, hcm]
theorem MM {v : Value} {w : World} : PH P (lone (sent.finish v) [] w) := by
 obtain ⟨o, ho⟩ : ∃ o, step P (lone (sent.finish v) [] w) = .ended o w := ⟨_, step_lone_ended (by simp only [stepG, stepG.exec, sent, Frame.finish]; rfl)⟩
 exact DZ ho (.inr (by simp))
theorem Ep {main : Bool} {b : Frame} {a : Act} {cs : List Frame} {w w' : World} {fn : Func} {todo : List Item} {c : Frame} {u : Value} (hn : b.kind = .normal) (hd : a.defers = []) (hf : P.funcs[b.fn]? = some fn)
  (hr : (results fn a.tmps).run P w = .ok u w') : stepG P main (G { b.at a todo with mode := .returning } (c :: cs)) w = .go (G (c.finish u) cs) w' (seen P b.fn ((results fn a.tmps).events P w #[])) := by
 simp [G, stepG, unwind, doReturn, Frame.at, hn, hd, hf, hr, GStep.after]
theorem G9 {main : Bool} {b : Frame} {a : Act} {k : List Item} {cs : List Frame} {w w' : World} {id : Nat} {ops : Array Oper} {t : Nat} (h : (choose (.order b.fn id)).run P w = .ok t w') :
  stepG P main (G (b.at a (.code (.region id ops true) :: k)) cs) w = .go (G (b.at a (.inRegion ops (Region.schedule (P.follows .mixedOrders) ops t) :: k)) cs) w' := by
 simp [G, stepG, stepG.exec, Frame.at, h]
end
section
variable (P : Program) (S : Scope)
abbrev SF : FuncId → Prop := fun f => S.fns f = true
def Ct (l : List Item) : Prop := ∀ it ∈ l, S.item P it = true
inductive FrR (π : Ren) (s r : List Item) : Frame → Frame → Prop where
 | run {f : FuncId} {t t' : Array Value} {todo : List Item} : AR (VR (SF S) π) t t' → Ct P S todo → (∃ fn, P.funcs[f]? = some fn) → FrR π s r (fm f t (todo ++ s)) (fm f t' (todo ++ r))
inductive PD (π : Ren) (s r : List Item) : Frame → Frame → Prop where
 | run {fr fr' : Frame} : FrR P S π s r fr fr' → PD π s r fr fr'
 | ret {f : FuncId} {t t' : Array Value} {todo todo' : List Item} : AR (VR (SF S) π) t t' → (∃ fn, P.funcs[f]? = some fn) → PD π s r (fmR f t todo) (fmR f t' todo')
def BI (r : List Item) : List Frame → List Item
 | [] => r
 | _ :: _ => []
inductive Lv (π : Ren) (s r : List Item) : Frame → Frame → Prop where
 | run {f : FuncId} {t t' : Array Value} {ops : Array Oper} {i : Nat} {rest : List Nat} {k : List Item} : AR (VR (SF S) π) t t' → Ct P S (.inRegion ops (i :: rest) :: k) → (∃ fn, P.funcs[f]? = some fn) →
  Lv π s r (fm f t ((.inRegion ops (i :: rest) :: k) ++ s)) (fm f t' ((.inRegion ops (i :: rest) :: k) ++ r))
inductive CsR (π : Ren) (s r : List Item) : List Frame → List Frame → Prop where
 | nil : CsR π s r [] []
 | cons {c c' : Frame} {l l' : List Frame} : Lv P S π (BI s l) (BI r l) c c' → CsR π s r l l' → CsR π s r (c :: l) (c' :: l')
structure RA (fr : Frame) (cs : List Frame) (v : World) (fr1 : Frame) (cs1 : List Frame) (v1 : World) : Prop where
 drawn : v.drawn ≤ v1.drawn
 tape : ∀ j, j < v.drawn → v1.tape j = v.tape j
 go : ∀ t, (∀ j, j < v1.drawn → t j = v1.tape j) → step P (lone fr (cs ++ [sent]) (v.tp t)) = .next (lone fr1 (cs1 ++ [sent]) (v1.tp t))
def CP (s r : List Item) (main : Bool) (R M : Nat → Prop) (cs0 : List Frame) (π : Ren) (fr : Frame) (cs : List Frame) (v : World) (fr' : Frame) (cs' : List Frame) (w : World) : Prop :=
 (∃ t, (∀ j, j < v.drawn → t j = v.tape j) ∧ PH P (lone fr (cs ++ [sent]) (v.tp t))) ∨
 ∃ fr1 cs1 v1, RA P fr cs v fr1 cs1 v1 ∧ ∃ π' fr1' cs1' w1 es, stepG P main (G fr' (cs' ++ cs0)) w = .go (G fr1' (cs1' ++ cs0)) w1 es ∧ π.Le π' ∧ PD P S π' (BI s cs1) (BI r cs1) fr1 fr1' ∧ CsR P S π' s r cs1 cs1' ∧
  WR (SF S) π' R v1 w1 ∧ Ay M w w1 ∧ (∀ e ∈ es, BZ (grown M w.heap.size w1.heap.size) R e) ∧ (∀ k k', π'.to k = some k' → π'.own k → grown M w.heap.size w1.heap.size k')
end
section
variable {P : Program} {S : Scope} {s r : List Item} {main : Bool} {R M : Nat → Prop} {cs0 : List Frame} {π : Ren} {fr fr' : Frame} {cs cs' : List Frame} {v w : World}
theorem FrR.mono {π' : Ren} (h : FrR P S π s r fr fr') (k : π.Le π') : FrR P S π' s r fr fr' := by
 cases h with
 | run ht ho hf => exact .run (ht.mono fun _ _ h => h.mono k) ho hf
theorem Lv.mono {π' : Ren} (h : Lv P S π s r fr fr') (k : π.Le π') : Lv P S π' s r fr fr' := by
 cases h with
 | run ht ho hf => exact .run (ht.mono fun _ _ h => h.mono k) ho hf
theorem CsR.mono {π' : Ren} (h : CsR P S π s r cs cs') (k : π.Le π') : CsR P S π' s r cs cs' := by
 induction h with
 | nil => exact .nil
 | cons h _ ih => exact .cons (h.mono k) ih
theorem D5 {fr1 : Frame} {cs1 : List Frame} {w w1 : World} {es : Array Event} (h : stepG P true (G fr cs) w = .go (G fr1 cs1) w1 es) : step P (lone fr cs w) = .next (lone fr1 cs1 w1) :=
 step_lone_go (by
  have e : ({ frame := fr, callers := cs, status := .running, dying := none } : Goroutine) = G fr cs := rfl
  rw [e, h]; rfl)
theorem CP.run {α β : Type} {Q : Ren → α → β → Prop} {sm : Sem α} {sm' : Sem β} (h : SR P (SF S) Q π sm sm') (hW : WR (SF S) π R v w) (hM : ∀ k k', π.to k = some k' → π.own k → M k')
  (A : α → Frame) (B : α → List Frame) (A' : β → Frame) (B' : β → List Frame)
  (hl : ∀ V a V1 π' b, Q π' a b → sm.run P V = .ok a V1 → step P (lone fr (cs ++ [sent]) V) = .next (lone (A a) (B a ++ [sent]) V1))
  (hbad : ∀ V x V1, sm.run P V = .halt x V1 → LG x → PH P (lone fr (cs ++ [sent]) V))
  (hr : ∀ b w1 π' a, Q π' a b → sm'.run P w = .ok b w1 → ∃ es, stepG P main (G fr' (cs' ++ cs0)) w = .go (G (A' b) (B' b ++ cs0)) w1 es ∧ ∀ e ∈ es, e ∈ (sm'.runT P w #[]).2)
  (hq : ∀ π' a b, π.Le π' → Q π' a b → PD P S π' (BI s (B a)) (BI r (B a)) (A a) (A' b) ∧ CsR P S π' s r (B a) (B' b)) : CP P S s r main R M cs0 π fr cs v fr' cs' w := by
 obtain ⟨t, h1, h2⟩ := SR.run h (es := #[]) hW hM
 rcases h2 with ⟨x, v1, h3, h4⟩ | ⟨a, v1, h3, h4, h5, h6, π', b, w1, u, h7, h8, h9, h10, h11, h12, h13, h14⟩
 ·exact .inl ⟨t, h1, hbad _ _ _ h3 h4⟩
 ·have hrun : sm'.run P w = .ok b w1 := by rw [← Sem.runT_fst P sm' w #[], h7]
  obtain ⟨es, h15, h16⟩ := hr b w1 π' a h9 hrun
  obtain ⟨h17, h18⟩ := hq π' a b h8 h9
  refine .inr ⟨A a, B a, v1, ⟨h4, fun j hj => by rw [h5]; exact h1 j hj, fun t2 h => hl _ a _ π' b h9 (h6 t2 fun j hj => by rw [h j hj, h5])⟩, π', A' b, B' b, w1, es, h15, h8, h17, h18, h10, h11, fun e he => ?_, h13⟩
  have := h16 e he
  rw [h7] at this
  exact h12 e (by simpa using this)
theorem CP.move {fr1 fr1' : Frame} {cs1 cs1' : List Frame} (hW : WR (SF S) π R v w) (hM : ∀ k k', π.to k = some k' → π.own k → M k') (hl : ∀ V, stepG P true (G fr (cs ++ [sent])) V = .go (G fr1 (cs1 ++ [sent])) V) (hr : stepG P main (G fr' (cs' ++ cs0)) w = .go (G fr1' (cs1' ++ cs0)) w)
  (h1 : PD P S π (BI s cs1) (BI r cs1) fr1 fr1') (h2 : CsR P S π s r cs1 cs1') : CP P S s r main R M cs0 π fr cs v fr' cs' w :=
 .inr ⟨fr1, cs1, v, ⟨Nat.le_refl _, fun _ _ => rfl, fun t _ => D5 (hl _)⟩, π, fr1', cs1', w, #[], hr, Ren.Le.refl _, h1, h2, hW, Ay.refl _ _, fun e he => by simp at he, fun k k' e1 e2 => .inl (hM k k' e1 e2)⟩
theorem CP.lost {o : World → Outcome} (hl : ∀ V, (stepG P true (G fr (cs ++ [sent])) V).bare = .ended (o V) V) (hn : Nk fr ∨ cs ≠ []) : CP P S s r main R M cs0 π fr cs v fr' cs' w :=
 .inl ⟨v.tape, fun _ _ => rfl, DZ (o := o v) (w' := v) (step_lone_ended (hl _)) (hn.imp id fun h e => h (by simpa using e))⟩
theorem DF {id : Nat} : ∀ {k k' : List Item}, exitTo id k = some k' → Ct P S k → Ct P S k'
 | [], _, h, _ => by simp [exitTo] at h
 | it :: k, k', h, ho => by
  have hk : Ct P S k := fun x hx => ho x (List.mem_cons_of_mem _ hx)
  cases it with
  | inBlock id' =>
   simp only [exitTo] at h
   split at h
   ·injection h with h; subst h; exact hk
   ·exact DF h hk
  | code c => exact DF (by simpa [exitTo] using h) hk
  | inLoop c => exact DF (by simpa [exitTo] using h) hk
  | inScope c => exact DF (by simpa [exitTo] using h) hk
  | inRegion ops l => exact DF (by simpa [exitTo] using h) hk
  | inRangeFunc l => exact DF (by simpa [exitTo] using h) hk
  | endRangeFunc l => exact DF (by simpa [exitTo] using h) hk
  | beginRound => exact DF (by simpa [exitTo] using h) hk
  | call a b c d => exact DF (by simpa [exitTo] using h) hk
  | extern a b => exact DF (by simpa [exitTo] using h) hk
theorem CV {id : Nat} {s : List Item} : ∀ {k k' : List Item}, exitTo id k = some k' → exitTo id (k ++ s) = some (k' ++ s)
 | [], _, h => by simp [exitTo] at h
 | it :: k, k', h => by
  cases it with
  | inBlock id' =>
   simp only [exitTo, List.cons_append] at h ⊢
   split at h
   ·injection h with h; subst h; rw [if_pos (by assumption)]
   ·rw [if_neg (by assumption)]; exact CV h
  | code c => exact CV (k := k) (by simpa [exitTo] using h)
  | inLoop c => exact CV (k := k) (by simpa [exitTo] using h)
  | inScope c => exact CV (k := k) (by simpa [exitTo] using h)
  | inRegion ops l => exact CV (k := k) (by simpa [exitTo] using h)
  | inRangeFunc l => exact CV (k := k) (by simpa [exitTo] using h)
  | endRangeFunc l => exact CV (k := k) (by simpa [exitTo] using h)
  | beginRound => exact CV (k := k) (by simpa [exitTo] using h)
  | call a b c d => exact CV (k := k) (by simpa [exitTo] using h)
  | extern a b => exact CV (k := k) (by simpa [exitTo] using h)
theorem NZ (h : Lv P S π s r fr fr') {u u' : Value} (hu : VR (SF S) π u u') : FrR P S π s r (fr.finish u) (fr'.finish u') := by
 cases h with
 | run ht ho hf =>
  rename_i f t t' ops i rest k
  have e : ∀ (t : Array Value) (u : Value) (k : List Item), (fm f t (.inRegion ops (i :: rest) :: k)).finish u = fm f (Act.put ⟨t, []⟩ ((ops[i]?).bind (·.dst)) u).tmps (.inRegion ops rest :: k) := by
   intro t u k
   unfold fm
   rw [Frame.finish_at]
   cases (ops[i]?).bind (·.dst) <;> rfl
  rw [List.cons_append, e, List.cons_append, e]
  refine .run (todo := .inRegion ops rest :: k) ?_ (fun it hit => ?_) hf
  ·cases (ops[i]?).bind (·.dst) with
   | none => exact ht
   | some d => exact ht.set d hu
  ·rcases List.mem_cons.1 hit with rfl | h
   ·have := ho (.inRegion ops (i :: rest)) List.mem_cons_self
    simp only [Scope.item, List.all_cons, Bool.and_eq_true] at this ⊢
    exact this.2
   ·exact ho _ (List.mem_cons_of_mem _ h)
theorem CsR.calm0 (h : CsR P S π s r cs cs') : ∀ c ∈ cs, Wt (P := P) c ∧ c.mode = .run := by
 induction h with
 | nil => intro c hc; simp at hc
 | cons hx _ ih =>
  intro c hc
  rcases List.mem_cons.1 hc with rfl | hc
  ·cases hx with
   | run _ _ h => exact ⟨⟨rfl, h⟩, rfl⟩
  ·exact ih c hc
theorem SR.mapAR {F : FuncId → Prop} {γ δ δ' : Type} {Rr : δ → δ' → Prop} {g : γ → Sem δ} {g' : γ → Sem δ'} (h : ∀ a, SR P F (At π Rr) π (g a) (g' a)) (l : Array γ) : SR P F (At π (AR Rr)) π (l.mapM g) (l.mapM g') := by
 have key : ∀ l : List γ, SR P F (At π (LR Rr)) π (l.mapM g) (l.mapM g') := by
  intro l
  induction l with
  | nil => exact .ret ⟨rfl, .nil⟩
  | cons a l ih => rw [List.mapM_cons, List.mapM_cons]; exact (h a).at fun x x' hx => ih.at fun y y' hy => .ret ⟨rfl, .cons hx hy⟩
 rw [Array.mapM_eq_mapM_toList, Array.mapM_eq_mapM_toList]
 exact (key _).at fun x x' hx => .ret ⟨rfl, hx.ar⟩
theorem KI (fn : Func) {t t' : Array Value} (ht : AR (VR (SF S) π) t t') : SR P (SF S) (At π (VR (SF S) π)) π (results fn t) (results fn t') := by
 unfold results
 refine SR.at (SR.mapAR (Rr := VR (SF S) π) (fun r => ?_) _) fun vs vs' hvs => ?_
 ·cases r with
  | tmp x => exact .ret ⟨rfl, ht.getD _ .undef⟩
  | cell a ty => exact (Il (ht.getD a .undef)).at fun p p' hp => EF ty hp
 ·refine .ret ⟨rfl, ?_⟩
  have hs := hvs.1
  by_cases h1 : vs.size = 1
  ·rw [dif_pos h1, dif_pos (hs ▸ h1)]
   exact hvs.2 0 _ _ (Array.getElem?_eq_getElem (by omega)) (Array.getElem?_eq_getElem (by omega))
  ·rw [dif_neg h1, dif_neg (hs ▸ h1)]
   exact .tuple' hvs
end
section
variable {P : Program} {S : Scope} {main : Bool} {R M : Nat → Prop} {cs0 : List Frame} {s r : List Item} {π : Ren} {cs cs' : List Frame} {v w : World}
theorem Lc {F : FuncId → Prop} {t t' : Array Value} (hS : ∀ f, S.fns f = true → F f) (hV : ∀ g, S.vars g = true → π.to g = some g) (ht : AR (VR F π) t t') (x : Operand) (hx : S.x x = true) : VR F π (Act.eval ⟨t, []⟩ x) (Act.eval ⟨t', []⟩ x) := by
 cases x with
 | tmp i => exact ht.getD i .undef
 | const v => exact OM 4 v hx F π
 | global g => exact .ptr ⟨hV g hx, rfl, rfl⟩
 | func f => exact .func' (.func (hS f hx)) .nil .nil
theorem H9 {F : FuncId → Prop} {t t' : Array Value} (ht : AR (VR F π) t t') (ops : Array Oper) (o : Oper) : Region.wanted o (yielded ops t') = Region.wanted o (yielded ops t) := by
 have e : yielded ops t' = yielded ops t := by
  funext j
  unfold yielded
  cases (ops[j]?).bind (·.dst) with
  | none => rfl
  | some d =>
   dsimp only [Option.bind_some]
   have := ht.opt d
   generalize t[d]? = a at this ⊢
   generalize t'[d]? = b at this ⊢
   cases this with
   | none => rfl
   | some h =>
    cases h with
    | hole h1 h2 h3 h4 => rename_i y; cases y <;> first | rfl | exact absurd rfl (h3 _)
    | _ => rfl
 rw [e]
theorem Ck {id : Nat} {s : List Item} : ∀ {k : List Item}, exitTo id k = none → exitTo id s = none → exitTo id (k ++ s) = none
 | [], _, h => h
 | it :: k, h, h2 => by
  cases it with
  | inBlock id' =>
   simp only [exitTo, List.cons_append] at h ⊢
   split at h
   ·cases h
   ·rw [if_neg (by assumption)]; exact Ck h h2
  | code c => exact Ck (k := k) (by simpa [exitTo] using h) h2
  | inLoop c => exact Ck (k := k) (by simpa [exitTo] using h) h2
  | inScope c => exact Ck (k := k) (by simpa [exitTo] using h) h2
  | inRegion ops l => exact Ck (k := k) (by simpa [exitTo] using h) h2
  | inRangeFunc l => exact Ck (k := k) (by simpa [exitTo] using h) h2
  | endRangeFunc l => exact Ck (k := k) (by simpa [exitTo] using h) h2
  | beginRound => exact Ck (k := k) (by simpa [exitTo] using h) h2
  | call a b c d => exact Ck (k := k) (by simpa [exitTo] using h) h2
  | extern a b => exact Ck (k := k) (by simpa [exitTo] using h) h2
theorem TB (K : PK P S) (hG : P.globals.size ≤ π.base) (hV : ∀ g, S.vars g = true → π.to g = some g) {f : FuncId} {t t' : Array Value} {todo : List Item} (ht : AR (VR (SF S) π) t t') (ho : Ct P S todo) (hf : ∃ fn, P.funcs[f]? = some fn)
  (hs0' : ∀ id, exitTo id s = none) (hne : cs = [] → todo ≠ [] ∨ (s = [] ∧ r = [])) (hcs : CsR P S π s r cs cs') (hW : WR (SF S) π R v w) (hM : ∀ k k', π.to k = some k' → π.own k → M k') : CP P S s r main R M cs0 π (fm f t (todo ++ BI s cs)) cs v (fm f t' (todo ++ BI r cs)) cs' w := by
 have hrun : ∀ {todo' : List Item}, Ct P S todo' → PD P S π (BI s cs) (BI r cs) (fm f t (todo' ++ BI s cs)) (fm f t' (todo' ++ BI r cs)) := fun h => .run (.run ht h hf)
 have mv : ∀ {todo' : List Item}, Ct P S todo' → (∀ (mn : Bool) (cs : List Frame) (t : Array Value) (V : World) (s : List Item), AR (VR (SF S) π) t t' ∨ t = t' → stepG P mn (G (fm f t (todo ++ s)) cs) V = .go (G (fm f t (todo' ++ s)) cs) V) → CP P S s r main R M cs0 π (fm f t (todo ++ BI s cs)) cs v (fm f t' (todo ++ BI r cs)) cs' w := fun h1 h2 =>
  .move hW hM (fun V => h2 _ _ _ _ _ (.inl ht)) (h2 _ _ _ _ _ (.inr rfl)) (hrun h1) hcs
 have hs0 : ∀ id, exitTo id (BI s cs) = none := fun id => by
  cases cs with
  | nil => exact hs0' id
  | cons _ _ => rfl
 have hnil : todo = [] → BI s cs = [] ∧ BI r cs = [] := fun e => by
  cases cs with
  | nil => exact (hne rfl).resolve_left (fun h => h e)
  | cons _ _ => exact ⟨rfl, rfl⟩
 have retn : (∀ (mn : Bool) (cs : List Frame) (t : Array Value) (V : World) (s : List Item), (todo = [] → s = []) → stepG P mn (G (fm f t (todo ++ s)) cs) V = .go (G (fmR f t (todo ++ s)) cs) V) → CP P S s r main R M cs0 π (fm f t (todo ++ BI s cs)) cs v (fm f t' (todo ++ BI r cs)) cs' w := fun h2 =>
  .move hW hM (fun V => h2 _ _ _ _ _ fun e => (hnil e).1) (h2 _ _ _ _ _ fun e => (hnil e).2) (.ret ht hf) hcs
 cases todo with
 | nil => exact retn fun mn cs t V s hs => by rw [hs rfl]; exact stepG_end
 | cons it k =>
  have hk : Ct P S k := fun x hx => ho x (List.mem_cons_of_mem _ hx)
  have hit : S.item P it = true := ho it List.mem_cons_self
  have nr : Nk (fm f t (it :: (k ++ BI s cs))) := ⟨by simp [fm, Frame.at], fun _ e => by
   have e1 : it :: (k ++ BI s cs) = [mkI] := e
   injection e1 with e1 e2
   rw [e1] at hit
   simp [mkI, Scope.item, Scope.code] at hit⟩
  have ok1 : ∀ {i : Item}, S.item P i = true → Ct P S (i :: k) := fun h x hx => (List.mem_cons.1 hx).elim (fun e => e ▸ h) (hk x)
  have ok2 : ∀ {i j : Item}, S.item P i = true → S.item P j = true → Ct P S (i :: j :: k) := fun h h' x hx => (List.mem_cons.1 hx).elim (fun e => e ▸ h) (ok1 h' x)
  cases it with
  | inBlock id => exact mv hk fun mn cs t V s _ => stepG_inBlock
  | inScope c => exact mv hk fun mn cs t V s _ => by simp [fm, G, stepG, stepG.exec, Frame.at]
  | inLoop c => exact mv (ok2 (i := .code c) (j := .inLoop c) hit hit) fun mn cs t V s _ => stepG_inLoop
  | inRangeFunc l => exact absurd hit (by simp [Scope.item])
  | endRangeFunc l => exact absurd hit (by simp [Scope.item])
  | beginRound => exact absurd hit (by simp [Scope.item])
  | call a b c d => exact absurd hit (by simp [Scope.item])
  | extern a b => exact absurd hit (by simp [Scope.item])
  | code c =>
   have hc : S.code P c = true := hit
   cases c with
   | skip => exact mv hk fun mn cs t V s _ => stepG_skip
   | label l => exact mv hk fun mn cs t V s _ => stepG_label
   | ret => exact retn fun mn cs t V s _ => stepG_ret'
   | seq a b =>
    simp only [Scope.code, Bool.and_eq_true] at hc
    exact mv (ok2 (i := .code a) (j := .code b) hc.1 hc.2) fun mn cs t V s _ => stepG_seq
   | block id c => exact mv (ok2 (i := .code c) (j := .inBlock id) hc rfl) fun mn cs t V s _ => stepG_block
   | loop c => exact mv (ok2 (i := .code c) (j := .inLoop c) hc hc) fun mn cs t V s _ => stepG_loop
   | scope c => exact mv (ok2 (i := .code c) (j := .inScope c) hc hc) fun mn cs t V s _ => by simp [fm, G, stepG, stepG.exec, Frame.at]
   | goto l => exact absurd hc (by simp [Scope.code])
   | rangeFunc a b c d => exact absurd hc (by simp [Scope.code])
   | refuse s => exact absurd hc (by simp [Scope.code])
   | exit id =>
    cases he : exitTo id k with
    | some k' => exact mv (DF he hk) fun mn cs t V s _ => stepG_exit (CV he)
    | none =>
     refine .lost (o := fun V => .stuck "exit, goto: no such block or label" ((fm f t (.code (.exit id) :: (k ++ BI s cs))).pos P)) (fun V => ?_) (.inl nr)
     simp [fm, G, stepG, stepG.exec, Frame.at, Ck he (hs0 id), base]
   | cond c a b =>
    simp only [Scope.code, Bool.and_eq_true] at hc
    have hx := Lc (fun _ h => h) hV ht c hc.1.1
    by_cases hb : ∃ q, Act.eval ⟨t, []⟩ c = .bool q
    ·obtain ⟨q, hq⟩ := hb
     have hq' : Act.eval ⟨t', []⟩ c = .bool q := by
      rw [hq] at hx
      generalize Act.eval ⟨t', []⟩ c = u at hx
      cases hx; rfl
     refine .move (fr1 := fm f t ((.code (if q then a else b) :: k) ++ BI s cs)) (fr1' := fm f t' ((.code (if q then a else b) :: k) ++ BI r cs)) (cs1 := cs) (cs1' := cs') hW hM (fun V => stepG_cond hq) (stepG_cond hq') (hrun (ok1 ?_)) hcs
     cases q
     ·exact hc.2
     ·exact hc.1.2
    ·refine .lost (o := fun V => .stuck "cond: bool expected" ((fm f t (.code (.cond c a b) :: (k ++ BI s cs))).pos P)) (fun V => ?_) (.inl nr)
     have h' : (fm f t (.code (.cond c a b) :: (k ++ BI s cs))).eval c = Act.eval ⟨t, []⟩ c := Frame.eval_at _ _ _ _
     generalize Act.eval ⟨t, []⟩ c = u at hb h'
     simp only [fm, Frame.at] at h'
     cases u <;> first
      | exact absurd ⟨_, rfl⟩ hb
      | (simp [fm, G, stepG, stepG.exec, Frame.at, h']; done)
   | region id ops draw =>
    have hops : ∀ l, S.item P (.inRegion ops l) = true := fun l => by
     have hc' : ops.all (fun o => S.op P o.op) = true := hc
     rw [Array.all_eq_true_iff_forall_mem] at hc'
     simp only [Scope.item, List.all_eq_true]
     intro i _
     cases ho : ops[i]? with
     | none => rfl
     | some o => exact hc' o (Array.mem_of_getElem? ho)
    cases draw with
    | false => exact mv (ok1 (i := .inRegion ops (List.range ops.size)) (hops _)) fun mn cs t V s _ => stepG_region
    | true =>
     refine CP.run (Q := At π Eq) (sm := choose (.order f id)) (sm' := choose (.order f id)) (.choose fun n => .pure ⟨rfl, rfl⟩) hW hM
      (fun n => fm f t ((.inRegion ops (Region.schedule (P.follows .mixedOrders) ops n) :: k) ++ BI s cs)) (fun _ => cs) (fun n => fm f t' ((.inRegion ops (Region.schedule (P.follows .mixedOrders) ops n) :: k) ++ BI r cs)) (fun _ => cs')
      (fun V a V1 π' b hq hr => D5 (G9 hr)) (fun V x V1 hr hb => ?_) (fun b w1 π' a hq hr => ⟨#[], G9 hr, fun e he => by simp at he⟩) (fun π' a b hle hq => ?_)
     ·simp [choose, Sem.run, Question.forced] at hr
     ·obtain ⟨rfl, rfl⟩ := hq
      exact ⟨hrun (ok1 (i := .inRegion ops _) (hops _)), hcs⟩
  | inRegion ops l =>
   cases l with
   | nil => exact mv hk fun mn cs t V s _ => stepG_region_end
   | cons i rest =>
    have hits : (match ops[i]? with | some o => S.op P o.op | none => true) = true ∧ S.item P (.inRegion ops rest) = true := by
     have h := hit
     simp only [Scope.item, List.all_cons, Bool.and_eq_true] at h ⊢
     exact h
    have hrest : Ct P S (.inRegion ops rest :: k) := ok1 (i := .inRegion ops rest) hits.2
    cases hoi : ops[i]? with
    | none =>
     refine mv hrest fun mn cs t V s _ => ?_
     simp [fm, G, stepG, stepG.exec, Frame.at, hoi, Frame.finish]
    | some o =>
     have hop : S.op P o.op = true := by
      have h := hits.1
      rw [hoi] at h
      exact h
     have hput : ∀ {π' : Ren} {u u' : Value}, AR (VR (SF S) π') t t' → VR (SF S) π' u u' → AR (VR (SF S) π') (Act.put ⟨t, []⟩ o.dst u).tmps (Act.put ⟨t', []⟩ o.dst u').tmps := by
      intro π' u u' h hu
      cases o.dst with
      | none => exact h
      | some d => exact h.set d hu
     cases hw : Region.wanted o (yielded ops t) with
     | false =>
      have hw' : Region.wanted o (yielded ops t') = false := by rw [H9 ht]; exact hw
      have e : ∀ (t : Array Value) (k : List Item), (base f).at (Act.put ⟨t, []⟩ o.dst undef) (.inRegion ops rest :: k) = fm f (Act.put ⟨t, []⟩ o.dst undef).tmps (.inRegion ops rest :: k) := by
       intro t k; unfold fm; cases o.dst <;> rfl
      refine .move (fr1 := fm f (Act.put ⟨t, []⟩ o.dst undef).tmps ((.inRegion ops rest :: k) ++ BI s cs)) (fr1' := fm f (Act.put ⟨t', []⟩ o.dst undef).tmps ((.inRegion ops rest :: k) ++ BI r cs)) (cs1 := cs) (cs1' := cs') hW hM (fun V => ?_) ?_ (.run (.run (hput ht .undef) hrest hf)) hcs
      ·rw [List.cons_append, List.cons_append, ← e]; exact stepG_unwanted hoi hw
      ·rw [List.cons_append, List.cons_append, ← e]; exact stepG_unwanted hoi hw'
     | true =>
      have hw' : Region.wanted o (yielded ops t') = true := by rw [H9 ht]; exact hw
      have e : ∀ (t : Array Value) (u : Value) (k : List Item), (base f).at (Act.put ⟨t, []⟩ o.dst u) (.inRegion ops rest :: k) = fm f (Act.put ⟨t, []⟩ o.dst u).tmps (.inRegion ops rest :: k) := by
       intro t u k; unfold fm; cases o.dst <;> rfl
      have hkind : (base f).kind ≠ .early := by simp [base]
      let A : List Item → Array Value → Next → Frame := fun k t n => match n with
       | .value u => fm f (Act.put ⟨t, []⟩ o.dst u).tmps (.inRegion ops rest :: k)
       | .enter g args => Frame.enter P g args .normal
       | _ => fm f (Act.put ⟨t, []⟩ o.dst undef).tmps (.inRegion ops rest :: k)
      let B : List Item → Array Value → List Frame → Next → List Frame := fun k t cs n => match n with
       | .enter _ _ => fm f t (.inRegion ops (i :: rest) :: k) :: cs
       | _ => cs
      have go : ∀ (k : List Item) (mn : Bool) (t : Array Value) (cs1 cs2 : List Frame) (V V1 : World) (n : Next), (n = .skip ∨ (∃ u, n = .value u) ∨ ∃ g args, n = .enter g args) → Region.wanted o (yielded ops t) = true → (execOp (Act.eval ⟨t, []⟩) o).run P V = .ok n V1 →
        ∃ es, stepG P mn (G (fm f t (.inRegion ops (i :: rest) :: k)) (cs1 ++ cs2)) V = .go (G (A k t n) (B k t cs1 n ++ cs2)) V1 es ∧ ∀ e ∈ es, e ∈ ((execOp (Act.eval ⟨t, []⟩) o).runT P V #[]).2 := by
       intro k mn t cs1 cs2 V V1 n hn hw hr
       rcases hn with rfl | ⟨u, rfl⟩ | ⟨g, args, rfl⟩
       ·exact ⟨_, by show _ = GStep.go (G (fm f (Act.put ⟨t, []⟩ o.dst undef).tmps (.inRegion ops rest :: k)) (cs1 ++ cs2)) V1 _; rw [← e]; exact stepG_none hoi hw hkind hr, fun e he => mem_seen he⟩
       ·exact ⟨_, by show _ = GStep.go (G (fm f (Act.put ⟨t, []⟩ o.dst u).tmps (.inRegion ops rest :: k)) (cs1 ++ cs2)) V1 _; rw [← e]; exact stepG_value hoi hw hkind hr, fun e he => mem_seen he⟩
       ·exact ⟨_, stepG_enter hoi hw hkind hr, fun e he => mem_seen he⟩
      refine CP.run (RV K.toOkay hG (fun m h => h) (fun g h => h) (fun x hx => Lc (fun _ h => h) hV ht x hx) o hop) hW hM (A (k ++ BI s cs) t) (B (k ++ BI s cs) t cs) (A (k ++ BI r cs) t') (B (k ++ BI r cs) t' cs') (fun V a V1 π' b hq hr => ?_) (fun V x V1 hr hb => ?_) (fun b w1 π' a hq hr => ?_) (fun π' a b hle hq => ?_)
      ·obtain ⟨es, h1, _⟩ := go (k ++ BI s cs) true t cs [sent] V V1 a (by cases hq; exact .inr (.inl ⟨_, rfl⟩); exact .inl rfl; exact .inr (.inr ⟨_, _, rfl⟩)) hw hr
       exact D5 h1
      ·have hst : stepG P true (G (fm f t (.inRegion ops (i :: rest) :: (k ++ BI s cs))) (cs ++ [sent])) V = stepG.apply P true (fm f t (.inRegion ops (i :: rest) :: (k ++ BI s cs))) (cs ++ [sent]) none (execOp (Act.eval ⟨t, []⟩) o) V := stepG_oper hoi hw
       have hk2 : ((fm f t (.inRegion ops (i :: rest) :: (k ++ BI s cs))).kind == CallKind.early) = false := rfl
       cases hb with
       | stuck msg =>
        refine DZ (o := .stuck msg ((fm f t (.inRegion ops (i :: rest) :: (k ++ BI s cs))).pos P)) (w' := V1) (step_lone_ended ?_) (.inl nr)
        show (stepG P true (G (fm f t (.inRegion ops (i :: rest) :: (k ++ BI s cs))) (cs ++ [sent])) V).bare = _
        rw [hst]
        simp [stepG.apply, hr, GStep.after, hk2]
       | unsup hu =>
        rename_i u
        refine DZ (o := .unsupported u ((fm f t (.inRegion ops (i :: rest) :: (k ++ BI s cs))).pos P)) (w' := V1) (step_lone_ended ?_) (.inl nr)
        show (stepG P true (G (fm f t (.inRegion ops (i :: rest) :: (k ++ BI s cs))) (cs ++ [sent])) V).bare = _
        rw [hst]
        cases u <;> first
         | exact absurd rfl (hu _)
         | (simp [stepG.apply, hr, GStep.after, hk2]; done)
       | panic u =>
        have h1 : step P (lone (fm f t (.inRegion ops (i :: rest) :: (k ++ BI s cs))) (cs ++ [sent]) V) = .next (lone ((fm f t (.inRegion ops (i :: rest) :: (k ++ BI s cs))).raise [{ v := u, recovered := false }]) (cs ++ [sent]) V1) := by
         refine step_lone_go ?_
         show (stepG P true (G (fm f t (.inRegion ops (i :: rest) :: (k ++ BI s cs))) (cs ++ [sent])) V).bare = _
         rw [hst]
         simp [stepG.apply, hr, GStep.after, hk2]
        exact Jo h1 (.inl nr) (K6 (chain := [{ v := u, recovered := false }]) ⟨rfl, hf⟩ rfl hcs.calm0)
      ·exact go (k ++ BI r cs) main t' cs' cs0 w w1 b (by cases hq; exact .inr (.inl ⟨_, rfl⟩); exact .inl rfl; exact .inr (.inr ⟨_, _, rfl⟩)) hw' hr
      ·have ht1 := ht.mono fun _ _ h => VR.mono h hle
       have hcs1 : CsR P S π' s r cs cs' := hcs.mono hle
       cases hq with
       | value hu => exact ⟨.run (.run (todo := .inRegion ops rest :: k) (hput ht1 hu) hrest hf), hcs1⟩
       | skip => exact ⟨.run (.run (todo := .inRegion ops rest :: k) (hput ht1 .undef) hrest hf), hcs1⟩
       | enter hg hfn ha =>
        rename_i g args args'
        obtain ⟨fn, c, h1, h2⟩ := hfn
        refine ⟨?_, .cons (.run ht1 ho hf) hcs1⟩
        show PD P S π' [] [] (Frame.enter P g args .normal) (Frame.enter P g args' .normal)
        rw [enter_at args h1 h2, enter_at args' h1 h2, ← ha.1]
        refine .run (.run (todo := [.code c]) (ha.app (AR.rep _ .undef)) (fun it hi => ?_) ⟨fn, h1⟩)
        rw [List.mem_singleton] at hi
        subst hi
        exact K.code g fn c hg h1 h2
theorem step_ret {f : FuncId} {t t' : Array Value} {todo todo' : List Item} {c c' : Frame} (ht : AR (VR (SF S) π) t t') (hf : ∃ fn, P.funcs[f]? = some fn)
  (hc : Lv P S π (BI s cs) (BI r cs) c c') (hcs : CsR P S π s r cs cs') (hW : WR (SF S) π R v w) (hM : ∀ k k', π.to k = some k' → π.own k → M k') : CP P S s r main R M cs0 π (fmR f t todo) (c :: cs) v (fmR f t' todo') (c' :: cs') w := by
 obtain ⟨fn, hf⟩ := hf
 refine CP.run (KI fn ht) hW hM (fun u => c.finish u) (fun _ => cs) (fun u => c'.finish u) (fun _ => cs') (fun V a V1 π' b hq hr => D5 (Ep (b := base f) (a := ⟨t, []⟩) rfl rfl hf hr)) (fun V x V1 hr hb => ?_)
  (fun b w1 π' a hq hr => ⟨_, Ep (b := base f) (a := ⟨t', []⟩) rfl rfl hf hr, fun e he => mem_seen he⟩) (fun π' a b hle hq => ?_)
 ·have key : ∃ o, (stepG P true (G (fmR f t todo) (c :: cs ++ [sent])) V).bare = .ended o V1 := by
   cases hb <;> exact ⟨_, by simp [G, stepG, unwind, fmR, fm, base, Frame.at, hf, hr, GStep.after]; rfl⟩
  obtain ⟨o, ho⟩ := key
  exact DZ (o := o) (w' := V1) (step_lone_ended ho) (.inr (by simp))
 ·obtain ⟨rfl, hq⟩ := hq
  exact ⟨.run (NZ hc hq), hcs⟩
end
end Go.Proofs.YtkkmokodaejheaaDoor
