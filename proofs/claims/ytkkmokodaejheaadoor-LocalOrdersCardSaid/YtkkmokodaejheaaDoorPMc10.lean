/- Texts of the proof, merged: Rn0, Mc0, Mc1, Mc2, Mc3, Mc4, Mc5, Mc6, Mc7, Mc8, Mc9, Mc10. -/
import Derived.Conc.Own
import Derived.Conc.Own2
import Derived.Conc.Own3
import Derived.Conc.Own4
import Derived.Conc.Own5
import Derived.Conc.Listed
import Derived.Conc.Machine
import Derived.Conc.Beside
import Derived.Conc.CrowdStepC2
import Derived.Conc.CrowdComm
set_option linter.unusedVariables false
set_option linter.unusedSimpArgs false
set_option linter.unusedSectionVars false
namespace Go.Proofs.YtkkmokodaejheaaDoor
open Go Go.Conc
def BZ (M R : Nat → Prop) (e : Event) : Prop := match e.loc with
 | .cell a => M a.block ∨ (R a.block ∧ e.write = false)
 | .obj r => M r
 | .mark m => m = .noRoom ∨ ∃ f, m = .extern f
 | _ => False
def grown (M : Nat → Prop) (n n' : Nat) : Nat → Prop := fun k => M k ∨ (n ≤ k ∧ k < n')
structure Ay (M : Nat → Prop) (w w' : World) : Prop where
 size : w.heap.size ≤ w'.heap.size
 rest : ∀ k : Nat, ¬ M k → k < w.heap.size → w'.heap[k]? = w.heap[k]?
 tape : w'.tape = w.tape
 os : w'.os = w.os
 out : w'.output = w.output
theorem Ay.refl (M : Nat → Prop) (w : World) : Ay M w w := ⟨Nat.le_refl _, fun _ _ _ => rfl, rfl, rfl, rfl⟩
theorem BU (M : Nat → Prop) (n : Nat) : grown M n n = M := by
 funext k; apply propext; exact ⟨fun h => h.elim id fun h => by omega, .inl⟩
theorem Pf {M : Nat → Prop} {n n1 n2 : Nat} (h1 : n ≤ n1) (h2 : n1 ≤ n2) : grown (grown M n n1) n1 n2 = grown M n n2 := by
 funext k; apply propext
 constructor
 ·rintro ((h | h) | h)
  ·exact .inl h
  ·exact .inr ⟨h.1, by omega⟩
  ·exact .inr ⟨by omega, h.2⟩
 ·rintro (h | h)
  ·exact .inl (.inl h)
  ·by_cases hk : k < n1
   ·exact .inl (.inr ⟨h.1, hk⟩)
   ·exact .inr ⟨by omega, h.2⟩
structure BS (M R : Nat → Prop) (Sh : World → Prop) (w w1 : World) : Prop where
 size : w.heap.size ≤ w1.heap.size
 mine : ∀ k : Nat, M k ∨ R k → w1.heap[k]? = w.heap[k]?
 tape : w1.tape = w.tape
 os : w1.os = w.os
 out : w1.output = w.output
 sh : Sh w → Sh w1
theorem BS.refl (M R : Nat → Prop) (Sh : World → Prop) (w : World) : BS M R Sh w w := ⟨Nat.le_refl _, fun _ _ => rfl, rfl, rfl, rfl, id⟩
theorem BS.trans {M R : Nat → Prop} {Sh : World → Prop} {a b c : World} (h : BS M R Sh a b) (h' : BS M R Sh b c) : BS M R Sh a c :=
 ⟨Nat.le_trans h.size h'.size, fun k hk => (h'.mine k hk).trans (h.mine k hk), h'.tape.trans h.tape, h'.os.trans h.os, h'.out.trans h.out, fun x => h'.sh (h.sh x)⟩
section
variable (P : Program) (main : Bool) (R : Nat → Prop) (Sh : World → Prop) (X : Event → Prop) (Stop : (Nat → Prop) → Goroutine → World → Prop)
inductive Own : (Nat → Prop) → Goroutine → World → Prop where
 | stop {M : Nat → Prop} {g : Goroutine} {w : World} (h : ∀ w1, BS M R Sh w w1 → Stop M g w1) : Own M g w
 | step {M : Nat → Prop} {g : Goroutine} {w : World} (hs : g.status = .running) (nx : World → Goroutine × World × Array Event)
   (h1 : ∀ w1, BS M R Sh w w1 → stepG P main g w1 = .go (nx w1).1 (nx w1).2.1 (nx w1).2.2)
   (h2 : ∀ w1, BS M R Sh w w1 → Ay M w1 (nx w1).2.1)
   (h3 : ∀ w1, BS M R Sh w w1 → ∀ e ∈ (nx w1).2.2, BZ (grown M w1.heap.size (nx w1).2.1.heap.size) R e ∨ X e)
   (h4 : ∀ w1, BS M R Sh w w1 → Own (grown M w1.heap.size (nx w1).2.1.heap.size) (nx w1).1 (nx w1).2.1) : Own M g w
end
section
variable {P : Program} {main : Bool} {R : Nat → Prop} {Sh : World → Prop} {X : Event → Prop} {Stop : (Nat → Prop) → Goroutine → World → Prop} {M : Nat → Prop}
theorem Own.rely {g : Goroutine} {w w1 : World} (h : Own P main R Sh X Stop M g w) (hr : BS M R Sh w w1) : Own P main R Sh X Stop M g w1 := by
 cases h with
 | stop h => exact .stop fun w2 h2 => h w2 (hr.trans h2)
 | step hs nx h1 h2 h3 h4 => exact .step hs nx (fun w2 k => h1 w2 (hr.trans k)) (fun w2 k => h2 w2 (hr.trans k)) (fun w2 k => h3 w2 (hr.trans k)) fun w2 k => h4 w2 (hr.trans k)
open Classical in
theorem Own.mk {g : Goroutine} {w : World} (hs : g.status = .running)
  (h : ∀ w1, BS M R Sh w w1 → ∃ g' w' es, stepG P main g w1 = .go g' w' es ∧ Ay M w1 w' ∧ (∀ e ∈ es, BZ (grown M w1.heap.size w'.heap.size) R e ∨ X e) ∧ Own P main R Sh X Stop (grown M w1.heap.size w'.heap.size) g' w') : Own P main R Sh X Stop M g w := by
 have hh : ∀ w1, ∃ x : Goroutine × World × Array Event, BS M R Sh w w1 → stepG P main g w1 = .go x.1 x.2.1 x.2.2 ∧ Ay M w1 x.2.1 ∧ (∀ e ∈ x.2.2, BZ (grown M w1.heap.size x.2.1.heap.size) R e ∨ X e) ∧ Own P main R Sh X Stop (grown M w1.heap.size x.2.1.heap.size) x.1 x.2.1 := fun w1 => by
  by_cases hr : BS M R Sh w w1
  ·obtain ⟨g', w', es, h1, h2, h3, h4⟩ := h w1 hr
   exact ⟨(g', w', es), fun _ => ⟨h1, h2, h3, h4⟩⟩
  ·exact ⟨(g, w, #[]), fun k => absurd k hr⟩
 have nx := fun w1 => Classical.choose_spec (hh w1)
 exact .step hs (fun w1 => Classical.choose (hh w1)) (fun w1 k => (nx w1 k).1) (fun w1 k => (nx w1 k).2.1) (fun w1 k => (nx w1 k).2.2.1) fun w1 k => (nx w1 k).2.2.2
theorem Own.move {g g' : Goroutine} {w : World} (hs : g.status = .running) (h : ∀ w1, stepG P main g w1 = .go g' w1) (h' : ∀ w1, BS M R Sh w w1 → Own P main R Sh X Stop M g' w1) : Own P main R Sh X Stop M g w :=
 .mk hs fun w1 hr => ⟨g', w1, #[], h w1, Ay.refl _ _, fun e he => by simp at he, by rw [BU]; exact h' w1 hr⟩
end
inductive Tr where
 | leaf
 | node (f : World → Tr)
def Tr.lt (a b : Tr) : Prop := ∃ f w, b = .node f ∧ a = f w
theorem Tr.acc : ∀ a : Tr, Acc Tr.lt a
 | .leaf => .intro _ fun y h => by obtain ⟨f, w, h, _⟩ := h; cases h
 | .node f => .intro _ fun y h => by
  obtain ⟨g, w, h, rfl⟩ := h
  cases h
  exact Tr.acc (f w)
def Tr.chain : Nat → Tr
 | 0 => .leaf
 | n + 1 => .node fun _ => Tr.chain n
def Tr.wrap : Tr → Tr
 | .leaf => .node fun _ => .leaf
 | .node f => .node fun w => Tr.wrap (f w)
def Yc (N : Nat) (f g : Nat → Tr) : Prop := ∃ i, i < N ∧ Tr.lt (f i) (g i) ∧ ∀ a, a ≠ i → f a = g a
theorem Pi : ∀ (N : Nat) (f : Nat → Tr), Acc (Yc N) f
 | 0, f => .intro _ fun y ⟨i, h, _⟩ => by omega
 | N + 1, f => by
  have key : ∀ x, Acc Tr.lt x → ∀ f : Nat → Tr, f N = x → Acc (Yc (N + 1)) f := by
   intro x hx
   induction hx with
   | intro x _ ihx =>
    intro f hf
    have hA := Pi N f
    induction hA with
    | intro f _ ihf =>
     refine .intro _ fun y ⟨i, hi, hlt, hs⟩ => ?_
     by_cases e : i = N
     ·subst e
      exact ihx _ (hf ▸ hlt) y rfl
     ·exact ihf y ⟨i, by omega, hlt, hs⟩ ((hs N (fun h => e h.symm)).trans hf)
  exact key _ (Tr.acc _) f rfl
abbrev Mu := Nat × ((Nat → Tr) × Tr)
def Ka (N : Nat) : Mu → Mu → Prop := Prod.Lex (· < ·) (Prod.Lex (Yc N) Tr.lt)
theorem Aan (N : Nat) : WellFounded (Ka N) := ⟨fun ⟨a, b, c⟩ => Prod.lexAccessible (Nat.lt_wfRel.wf.apply a) (fun ⟨b, c⟩ => Prod.lexAccessible (Pi N b) (fun c => Tr.acc c) c) (b, c)⟩
section
variable {N : Nat} {a b : Nat} {f g : Nat → Tr} {x y : Tr}
theorem ET (h : a < b) : Ka N (a, f, x) (b, g, y) := Prod.Lex.left _ _ h
theorem Xp (h : a = b) (hf : Yc N f g) : Ka N (a, f, x) (b, g, y) := by subst h; exact Prod.Lex.right _ (Prod.Lex.left _ _ hf)
theorem Xq (h : a = b) (hf : f = g) (hx : Tr.lt x y) : Ka N (a, f, x) (b, g, y) := by subst h; subst hf; exact Prod.Lex.right _ (Prod.Lex.right _ hx)
end
def D6 (P : Program) (main : Bool) (R : Nat → Prop) (Sh : World → Prop) (X : Event → Prop) (Stop : (Nat → Prop) → Goroutine → World → Prop) : Tr → (Nat → Prop) → Goroutine → World → Prop
 | .leaf, M, g, w => ∀ w1, BS M R Sh w w1 → Stop M g w1
 | .node f, M, g, w => g.status = .running ∧ ∀ w1, BS M R Sh w w1 → ∃ g' w' es, stepG P main g w1 = .go g' w' es ∧ Ay M w1 w' ∧ (∀ e ∈ es, BZ (grown M w1.heap.size w'.heap.size) R e ∨ X e) ∧
   D6 P main R Sh X Stop (f w1) (grown M w1.heap.size w'.heap.size) g' w'
section
variable {P : Program} {main : Bool} {R : Nat → Prop} {Sh : World → Prop} {X : Event → Prop} {Stop : (Nat → Prop) → Goroutine → World → Prop} {M : Nat → Prop} {g : Goroutine} {w w1 : World}
open Classical in
theorem Own.tree (h : Own P main R Sh X Stop M g w) : ∃ τ, D6 P main R Sh X Stop τ M g w := by
 induction h with
 | stop h => exact ⟨.leaf, h⟩
 | step hs nx h1 h2 h3 h4 ih =>
  rename_i M g w
  let f : World → Tr := fun w1 => if hr : BS M R Sh w w1 then Classical.choose (ih w1 hr) else .leaf
  refine ⟨.node f, hs, fun w1 hr => ⟨_, _, _, h1 w1 hr, h2 w1 hr, h3 w1 hr, ?_⟩⟩
  show D6 P main R Sh X Stop (if hr : BS M R Sh w w1 then Classical.choose (ih w1 hr) else .leaf) _ _ _
  rw [dif_pos hr]
  exact Classical.choose_spec (ih w1 hr)
theorem D6.rely : ∀ {τ : Tr}, D6 P main R Sh X Stop τ M g w → BS M R Sh w w1 → D6 P main R Sh X Stop τ M g w1
 | .leaf, h, hr => fun w2 h2 => h w2 (hr.trans h2)
 | .node f, h, hr => ⟨h.1, fun w2 h2 => h.2 w2 (hr.trans h2)⟩
theorem D6.running (hst : ∀ M g w, Stop M g w → g.status = .running) : ∀ {τ : Tr}, D6 P main R Sh X Stop τ M g w → g.status = .running
 | .leaf, h => hst _ _ _ (h w (.refl ..))
 | .node f, h => h.1
theorem Gf {E : Event → Prop} (hE : ∀ e, E e → ∀ M, BZ M R e ∨ X e) {Rl : World → World → Prop} (hrl : ∀ M w w1, BS M R Sh w w1 → Rl w w1) {S : Goroutine → World → Prop} : ∀ {n : Nat} {M : Nat → Prop} {g : Goroutine} {w : World}, Goes P main Rl (fun w w' es => w' = w ∧ ∀ e ∈ es, E e) S n g w → Own P main R Sh X (fun _ g w => S g w) M g w
 | 0, M, g, w, h => .stop fun w1 hr => h w1 (hrl _ _ _ hr)
 | n + 1, M, g, w, h => by
  rcases h with h | ⟨hs, h⟩
  ·exact .stop fun w1 hr => h w1 (hrl _ _ _ hr)
  ·refine Own.mk hs fun w1 hr => ?_
   have := h w1 (hrl _ _ _ hr)
   cases hg : stepG P main g w1 with
   | go g' w' es =>
    rw [hg, goes_go] at this
    obtain ⟨⟨e1, e2⟩, hn⟩ := this; subst e1
    exact ⟨g', w', es, rfl, Ay.refl _ _, fun e he => hE e (e2 e he) _, Gf hE hrl hn⟩
   | _ => rw [hg] at this; exact this.elim
theorem Own.mono {Stop' : (Nat → Prop) → Goroutine → World → Prop} (h : Own P main R Sh X Stop M g w) (hs : ∀ M g w, Stop M g w → Stop' M g w) : Own P main R Sh X Stop' M g w := by
 induction h with
 | stop h => exact .stop fun w1 hr => hs _ _ _ (h w1 hr)
 | step hr nx h1 h2 h3 h4 ih => exact .step hr nx h1 h2 h3 ih
end
theorem NE {P : Program} {α : Type} {r : α → α → Prop} (wf : WellFounded r) (Kb : α → Machine → Trace → Prop) (Q : Machine → Trace → Prop)
  (h : ∀ μ m t, Kb μ m t → Q m t ∨ (∃ m' ops μ', stepT P m = (.next m', ops) ∧ r μ' μ ∧ Kb μ' m' (t ++ ops))) :
  ∀ μ m t, Kb μ m t → ∃ n m' t', runNT P n m t = (.next m', t') ∧ Q m' t' := by
 intro μ
 induction μ using wf.induction with
 | _ μ ih =>
  intro m t hI
  rcases h μ m t hI with hq | ⟨m', ops, μ', hs, hr, hI'⟩
  ·exact ⟨0, m, t, rfl, hq⟩
  ·obtain ⟨n, m2, t', h1, h2⟩ := ih μ' hr m' (t ++ ops) hI'
   exact ⟨n + 1, m2, t', by rw [runNT_succ_next hs]; exact h1, h2⟩
end Go.Proofs.YtkkmokodaejheaaDoor
namespace Go.Proofs.YtkkmokodaejheaaDoor
open Go Go.Conc
open Go.ConcR (stA smA mk rd wr KK WgAt Bk)
open Go.ConcN (RelBy)
structure GQ where
 Wg : Nat
 Ch : Nat
 B0 : Nat
 z0 : Nat
 T0 : Nat
 R : Nat → Prop
 Mine : Nat → Addr → Prop
 Shun : Loc → Prop
structure GQ.Ok (A : GQ) : Prop where
 rB : ∀ b, A.R b → b < A.B0
 rW : ∀ b, A.R b → b ≠ A.Wg ∧ b ≠ A.Ch
 rM : ∀ k a, A.Mine k a → ¬ A.R a.block
 mB : ∀ k a, A.Mine k a → a.block < A.B0 ∧ a.block ≠ A.Wg ∧ a.block ≠ A.Ch
 mU : ∀ k k' a, A.Mine k a → A.Mine k' a → k = k'
 wB : A.Wg < A.B0
 cB : A.Ch < A.B0
 wc : A.Wg ≠ A.Ch
 shun : ∀ l, A.Shun l → ∃ a, l = .cell a ∧ a.block < A.B0 ∧ a.block ≠ A.Wg ∧ ¬ A.R a.block ∧ ∀ k, ¬ A.Mine k a
structure Cn where
 size : Nat
 own : Nat → Nat
 nx : Nat
 hold : Nat → Nat
structure Cn.Le (H H' : Cn) : Prop where
 size : H.size ≤ H'.size
 own : ∀ b, b < H.size → H'.own b = H.own b
 nx : H.nx ≤ H'.nx
 hold : ∀ k, k < H.nx → H'.hold k = H.hold k
theorem Cn.Le.refl (H : Cn) : H.Le H := ⟨Nat.le_refl _, fun _ _ => rfl, Nat.le_refl _, fun _ _ => rfl⟩
inductive Cls (A : GQ) (H : Cn) (g : Nat) (a : Touch) : Prop
 | wg (ad : Addr) : a.loc = .cell ad → ad.block = A.Wg → a.kind ≠ .plain → (a.kind = .said → g = 0) → Cls A H g a
 | ch : a.loc = .obj A.Ch → a.kind ≠ .plain → (a.kind = .said → g = 0) → Cls A H g a
 | own (b : Nat) : ((∃ ad, a.loc = .cell ad ∧ ad.block = b) ∨ a.loc = .obj b) → A.B0 ≤ b → b < H.size → H.own b = g → Cls A H g a
 | key (k : Nat) (ad : Addr) : a.loc = .cell ad → A.Mine k ad → k < H.nx → H.hold k = g → Cls A H g a
 | rd (ad : Addr) : a.loc = .cell ad → A.R ad.block → a.write = false → Cls A H g a
 | non : a.loc.isMemory = false → Cls A H g a
theorem Cls.mono {A : GQ} {H H' : Cn} {g : Nat} {a : Touch} (h : Cls A H g a) (k : H.Le H') : Cls A H' g a := by
 cases h with
 | wg ad h1 h2 h3 h4 => exact .wg ad h1 h2 h3 h4
 | ch h1 h2 h3 => exact .ch h1 h2 h3
 | own b h1 h2 h3 h4 => exact .own b h1 h2 (Nat.lt_of_lt_of_le h3 k.size) ((k.own b h3).trans h4)
 | key q ad h1 h2 h3 h4 => exact .key q ad h1 h2 (Nat.lt_of_lt_of_le h3 k.nx) ((k.hold q h3).trans h4)
 | rd ad h1 h2 h3 => exact .rd ad h1 h2 h3
 | non h => exact .non h
theorem Cls.one {A : GQ} (O : A.Ok) {H : Cn} {g g' : Nat} {a b : Touch} {said : Bool} (ha : Cls A H g a) (hb : Cls A H g' b) (hc : a.conflicts said b) : g = g' := by
 obtain ⟨hl, hm, hw, hk⟩ := hc
 have kinds : a.kind ≠ .plain → b.kind ≠ .plain → (a.kind = .said → g = 0) → (b.kind = .said → g' = 0) → g = g' := by
  intro h1 h2 h3 h4
  rcases hk with e | e | ⟨_, e1, e2⟩
  ·exact absurd e h1
  ·exact absurd e h2
  ·rw [h3 e1, h4 e2]
 cases ha with
 | non h => rw [h] at hm; cases hm
 | wg ad h1 h2 h3 h4 =>
  rw [h1] at hl
  cases hb with
  | non h => rw [← hl] at h; cases h
  | wg ad' k1 k2 k3 k4 => exact kinds h3 k3 h4 k4
  | ch k1 k2 k3 => rw [k1] at hl; cases hl
  | own c k1 k2 k3 k4 =>
   exfalso
   rcases k1 with ⟨ad', e, e'⟩ | e
   ·rw [e] at hl; cases hl; have := O.wB; omega
   ·rw [e] at hl; cases hl
  | key q ad' k1 k2 k3 k4 => rw [k1] at hl; cases hl; exact absurd h2 (O.mB _ _ k2).2.1
  | rd ad' k1 k2 k3 => rw [k1] at hl; cases hl; exact absurd h2 (O.rW _ k2).1
 | ch h1 h2 h3 =>
  rw [h1] at hl
  cases hb with
  | non h => rw [← hl] at h; cases h
  | wg ad' k1 k2 k3 k4 => rw [k1] at hl; cases hl
  | ch k1 k2 k3 => exact kinds h2 k2 h3 k3
  | own c k1 k2 k3 k4 =>
   exfalso
   rcases k1 with ⟨ad', e, e'⟩ | e
   ·rw [e] at hl; cases hl
   ·rw [e] at hl; cases hl; have := O.cB; omega
  | key q ad' k1 k2 k3 k4 => rw [k1] at hl; cases hl
  | rd ad' k1 k2 k3 => rw [k1] at hl; cases hl
 | own c h1 h2 h3 h4 =>
  cases hb with
  | non h => rw [← hl] at h; rw [h] at hm; cases hm
  | wg ad' k1 k2 k3 k4 =>
   exfalso
   rw [k1] at hl
   rcases h1 with ⟨ad, e, e'⟩ | e
   ·rw [e] at hl; cases hl; have := O.wB; omega
   ·rw [e] at hl; cases hl
  | ch k1 k2 k3 =>
   exfalso
   rw [k1] at hl
   rcases h1 with ⟨ad, e, e'⟩ | e
   ·rw [e] at hl; cases hl
   ·rw [e] at hl; cases hl; have := O.cB; omega
  | own c' k1 k2 k3 k4 =>
   have : c = c' := by
    rcases h1 with ⟨ad, e, e'⟩ | e <;> rcases k1 with ⟨ad', f, f'⟩ | f <;> rw [e, f] at hl <;> cases hl
    ·exact e'.symm.trans f'
    ·rfl
   subst this
   exact h4.symm.trans k4
  | key q ad' k1 k2 k3 k4 =>
   exfalso
   rw [k1] at hl
   rcases h1 with ⟨ad, e, e'⟩ | e
   ·rw [e] at hl; cases hl; have := (O.mB _ _ k2).1; omega
   ·rw [e] at hl; cases hl
  | rd ad' k1 k2 k3 =>
   exfalso
   rw [k1] at hl
   rcases h1 with ⟨ad, e, e'⟩ | e
   ·rw [e] at hl; cases hl; have := O.rB _ k2; omega
   ·rw [e] at hl; cases hl
 | key q ad h1 h2 h3 h4 =>
  rw [h1] at hl
  cases hb with
  | non h => rw [← hl] at h; cases h
  | wg ad' k1 k2 k3 k4 => rw [k1] at hl; cases hl; exact absurd k2 (O.mB _ _ h2).2.1
  | ch k1 k2 k3 => rw [k1] at hl; cases hl
  | own c k1 k2 k3 k4 =>
   exfalso
   rcases k1 with ⟨ad', e, e'⟩ | e
   ·rw [e] at hl; cases hl; have := (O.mB _ _ h2).1; omega
   ·rw [e] at hl; cases hl
  | key q' ad' k1 k2 k3 k4 =>
   rw [k1] at hl; cases hl
   have := O.mU _ _ _ h2 k2
   subst this
   exact h4.symm.trans k4
  | rd ad' k1 k2 k3 => rw [k1] at hl; cases hl; exact absurd k2 (O.rM _ _ h2)
 | rd ad h1 h2 h3 =>
  rw [h1] at hl
  cases hb with
  | non h => rw [← hl] at h; cases h
  | wg ad' k1 k2 k3 k4 => rw [k1] at hl; cases hl; exact absurd k2 (O.rW _ h2).1
  | ch k1 k2 k3 => rw [k1] at hl; cases hl
  | own c k1 k2 k3 k4 =>
   exfalso
   rcases k1 with ⟨ad', e, e'⟩ | e
   ·rw [e] at hl; cases hl; have := O.rB _ h2; omega
   ·rw [e] at hl; cases hl
  | key q' ad' k1 k2 k3 k4 => rw [k1] at hl; cases hl; exact absurd h2 (O.rM _ _ k2)
  | rd ad' k1 k2 k3 =>
   exfalso
   rw [h3, k3] at hw
   simp at hw
theorem Cls.notShun {A : GQ} (O : A.Ok) {H : Cn} {g : Nat} {b : Touch} (hb : Cls A H g b) (hs : A.Shun b.loc) : False := by
 obtain ⟨a, e, h1, h2, h3, h4⟩ := O.shun _ hs
 cases hb with
 | wg ad k1 k2 _ _ => rw [k1] at e; cases e; exact h2 k2
 | ch k1 _ _ => rw [k1] at e; cases e
 | own c k1 k2 _ _ =>
  rcases k1 with ⟨ad', f, f'⟩ | f
  ·rw [f] at e; cases e; omega
  ·rw [f] at e; cases e
 | key q ad k1 k2 _ _ => rw [k1] at e; cases e; exact h4 _ k2
 | rd ad k1 k2 _ => rw [k1] at e; cases e; exact h3 k2
 | non k => rw [e] at k; cases k
structure TI (A : GQ) (H : Cn) (j : Nat) (t : Trace) : Prop where
 nr : ∀ said, ¬ Race said t
 base : ∀ g, g = 0 ∨ (A.z0 < g ∧ g ≤ j) → ∀ i a, i < A.T0 → touchAt t i = some a → a.loc.isMemory = true → Knows t g i ∨ (A.Shun a.loc ∧ a.kind = .atomic)
 new : ∀ i a g, A.T0 ≤ i → touchAt t i = some a → t.g? i = some g → (g = 0 ∨ A.z0 < g) ∧ Cls A H g a
 gs : ∀ (i : Nat) (op : MemOp), A.T0 ≤ i → t[i]? = some op → op.g ≤ j
 seen : ∀ op ∈ t, op.act.low H.size
 norel : Go.Conc.NoRelease (stA A.Wg) t
 over : ∀ i g, i < A.T0 → t.g? i = some g → g ≠ 0 → t.counts i → ∃ q, t.g? q = some 0 ∧ HappensBefore t i q
 T0 : A.T0 ≤ t.size
section
variable {A : GQ} {H H' : Cn} {j g : Nat} {t u : Trace}
theorem g?_of {t : Trace} {i : Nat} {op : MemOp} (h : t[i]? = some op) : t.g? i = some op.g := by simp [Trace.g?, h]
theorem TI.grow (h : TI A H j t) (hle : H.Le H') (hnr : ∀ said, ¬ Race said (t ++ u)) (hu : ∀ op ∈ u, op.g ≤ j ∧ (∀ x, op.act.touch? = some x → (op.g = 0 ∨ A.z0 < op.g) ∧ Cls A H' op.g x) ∧ op.act.low H'.size ∧ op.act ≠ .mark (.release (stA A.Wg))) : TI A H' j (t ++ u) := by
 refine ⟨hnr, fun g' hg' i a hi ha hm => ?_, fun i a g' hi ha hg' => ?_, fun i op hT hi => ?_, fun op hop => ?_, h.norel.app fun op hop => (hu op hop).2.2.2, fun i g' hi hg' hne hc => ?_, by simp; have := h.T0; omega⟩
 ·have hlt : i < t.size := Nat.lt_of_lt_of_le hi h.T0
  rw [touchAt_old hlt] at ha
  exact (h.base g' hg' i a hi ha hm).imp (·.app u) id
 ·obtain ⟨op, hop, hox⟩ := touch_of ha
  rcases getElem?_append_cases hop with ⟨hlt, hop'⟩ | ⟨_, hopu⟩
  ·have := h.new i a g' hi (by rw [touchAt_of hop']; exact hox) (by rw [g?_of hop'] ; rw [g?_of hop] at hg'; exact hg')
   exact ⟨this.1, this.2.mono hle⟩
  ·rw [g?_of hop] at hg'
   cases hg'
   exact (hu op hopu).2.1 a hox
 ·rcases getElem?_append_cases hi with ⟨_, hi'⟩ | ⟨_, hiu⟩
  ·exact h.gs i op hT hi'
  ·exact (hu op hiu).1
 ·rcases Array.mem_append.1 hop with h1 | h1
  ·exact MemAct.low_mono hle.size (h.seen op h1)
  ·exact (hu op h1).2.2.1
 ·have hlt : i < t.size := Nat.lt_of_lt_of_le hi h.T0
  rw [Go.Conc.counts_old hlt] at hc
  rw [Go.Conc.g?_old hlt] at hg'
  obtain ⟨q, h1, h2⟩ := h.over i g' hi hg' hne hc
  obtain ⟨z, hz, _⟩ := Option.map_eq_some_iff.1 h1
  have hq := lt_size_of_getElem? hz
  exact ⟨q, by rw [Go.Conc.g?_old hq]; exact h1, hb_app u h2⟩
theorem TI.app (O : A.Ok) (h : TI A H j t) (hg : g = 0 ∨ (A.z0 < g ∧ g ≤ j)) (hle : H.Le H') (hu : ∀ op ∈ u, op.g = g ∧ (∀ x, op.act.touch? = some x → Cls A H' g x) ∧ op.act.low H'.size ∧ op.act ≠ .mark (.release (stA A.Wg))) : TI A H' j (t ++ u) := by
 refine h.grow hle (fun said => noRace_append (h.nr said) (fun op hop => (hu op hop).1) fun i a ha op hop b hb hc => ?_) fun op hop => ⟨?_, fun x hx => ⟨?_, ?_⟩, (hu op hop).2.2.1, (hu op hop).2.2.2⟩
 ·have hcb := (hu op hop).2.1 b hb
  by_cases hi : i < A.T0
  ·rcases h.base g hg i a hi ha hc.2.1 with hk | ⟨hs, _⟩
   ·exact hk
   ·exact absurd (hc.1 ▸ hs) fun hs => hcb.notShun O hs
  ·obtain ⟨x, hx, hxa⟩ := touch_of ha
   have hca := (h.new i a x.g (by omega) ha (g?_of hx)).2.mono hle
   have := Cls.one O hca hcb hc
   subst this
   exact knows_own hx
 ·rw [(hu op hop).1]; omega
 ·rw [(hu op hop).1]; exact hg.imp id (·.1)
 ·rw [(hu op hop).1]; exact (hu op hop).2.1 x hx
theorem IC {said : Bool} (h : ¬ Race said t) (hu : ∀ op ∈ u, op.act.touch? = none) : ¬ Race said (t ++ u) := by
 rintro ⟨i, j, hij, ⟨a, b, ha, hb, hc⟩, n1, n2⟩
 have old : ∀ {i : Nat} {a : Touch}, ((t ++ u).act? i).bind (·.touch?) = some a → (t.act? i).bind (·.touch?) = some a := by
  intro i a ha
  obtain ⟨x, hx, hxa⟩ := touch_of ha
  rcases getElem?_append_cases hx with ⟨_, hx'⟩ | ⟨_, hxu⟩
  ·simp [Trace.act?, hx', hxa]
  ·rw [hu x hxu] at hxa; cases hxa
 exact h ⟨i, j, hij, ⟨a, b, old ha, old hb, hc⟩, fun e => n1 (hb_app u e), fun e => n2 (hb_app u e)⟩
theorem TI.quiet (h : TI A H j t) (hle : H.Le H') (hu : ∀ op ∈ u, op.g ≤ j ∧ op.act.touch? = none ∧ op.act.low H'.size ∧ op.act ≠ .mark (.release (stA A.Wg))) : TI A H' j (t ++ u) :=
 h.grow hle (fun said => IC (h.nr said) fun op hop => (hu op hop).2.1) fun op hop => ⟨(hu op hop).1, fun x hx => (by rw [(hu op hop).2.1] at hx; cases hx), (hu op hop).2.2⟩
theorem TI.same (h : TI A H j t) (hle : H.Le H') : TI A H' j t := by
 have := h.quiet (u := #[]) hle (by intro op hop; simp at hop)
 simpa using this
theorem TI.fork (h : TI A H j t) {x y : MemOp} (hx : x.g = 0 ∧ x.act = .go (j + 1)) (hy : y.g = j + 1 ∧ y.act = .start) (h0 : Deaf t 0 = 0) (hk : Deaf t (j + 1) = 0) : TI A H (j + 1) (t ++ #[x, y]) := by
 have hm : ∀ op ∈ #[x, y], op = x ∨ op = y := by intro op hop; simpa using hop
 have hnt : ∀ op ∈ #[x, y], op.act.touch? = none := by
  intro op hop
  rcases hm op hop with rfl | rfl
  ·rw [hx.2]; rfl
  ·rw [hy.2]; rfl
 have old : ∀ {i : Nat} {a : Touch}, touchAt (t ++ #[x, y]) i = some a → touchAt t i = some a := by
  intro i a ha
  obtain ⟨z, hz, hza⟩ := touch_of ha
  rcases getElem?_append_cases hz with ⟨_, hz'⟩ | ⟨_, hzu⟩
  ·rw [touchAt_of hz']; exact hza
  ·rw [hnt z hzu] at hza; cases hza
 refine ⟨fun said => IC (h.nr said) hnt, fun g' hg' i a hi ha hm' => ?_, fun i a g' hi ha hg' => ?_, fun i op hT hi => ?_, fun op hop => ?_, h.norel.app fun op hop => ?_, fun i g' hi hg' hne hc => ?_, by simp; have := h.T0; omega⟩
 ·have ha' := old ha
  by_cases e : g' = j + 1
  ·subst e
   exact (h.base 0 (.inl rfl) i a hi ha' hm').imp (Go.ConcN.fork_knows hx hy h0 hk) id
  ·exact (h.base g' (by omega) i a hi ha' hm').imp (·.app _) id
 ·have ha' := old ha
  obtain ⟨z, hz, _⟩ := touch_of ha'
  refine h.new i a g' hi ha' ?_
  rwa [Go.Conc.g?_old (lt_size_of_getElem? hz)] at hg'
 ·rcases getElem?_append_cases hi with ⟨_, hi'⟩ | ⟨_, hiu⟩
  ·exact Nat.le_succ_of_le (h.gs i op hT hi')
  ·rcases hm op hiu with rfl | rfl
   ·rw [hx.1]; exact Nat.zero_le _
   ·rw [hy.1]; exact Nat.le_refl _
 ·rcases Array.mem_append.1 hop with h1 | h1
  ·exact h.seen op h1
  ·rcases hm op h1 with rfl | rfl
   ·rw [hx.2]; trivial
   ·rw [hy.2]; trivial
 ·rcases hm op hop with rfl | rfl
  ·rw [hx.2]; simp
  ·rw [hy.2]; simp
 ·have hlt : i < t.size := Nat.lt_of_lt_of_le hi h.T0
  rw [Go.Conc.counts_old hlt] at hc
  rw [Go.Conc.g?_old hlt] at hg'
  obtain ⟨q, h1, h2⟩ := h.over i g' hi hg' hne hc
  obtain ⟨z, hz, _⟩ := Option.map_eq_some_iff.1 h1
  exact ⟨q, by rw [Go.Conc.g?_old (lt_size_of_getElem? hz)]; exact h1, hb_app _ h2⟩
end
structure JF (A : GQ) (t : Trace) (g r : Nat) : Prop where
 rel : RelBy (stA A.Wg) t g r
 late : ∀ i a, r < i → touchAt t i = some a → t.g? i = some g → (∃ ad, a.loc = .cell ad ∧ ad.block = A.Wg) ∧ a.kind = .atomic
section
variable {A : GQ} {H : Cn} {j g r : Nat} {t u : Trace}
theorem JF.app (h : JF A t g r) (hrel : RelBy (stA A.Wg) (t ++ u) g r) (hu : ∀ op ∈ u, op.g = g → ∀ x, op.act.touch? = some x → (∃ ad, x.loc = .cell ad ∧ ad.block = A.Wg) ∧ x.kind = .atomic) : JF A (t ++ u) g r := by
 refine ⟨hrel, fun i a hi ha hg => ?_⟩
 obtain ⟨z, hz, hza⟩ := touch_of ha
 rcases getElem?_append_cases hz with ⟨_, hz'⟩ | ⟨_, hzu⟩
 ·exact h.late i a hi (by rw [touchAt_of hz']; exact hza) (by rw [g?_of hz']; rw [g?_of hz] at hg; exact hg)
 ·rw [g?_of hz] at hg
  cases hg
  exact hu z hzu rfl a hza
theorem JF.other (h : JF A t g r) (hu : ∀ op ∈ u, op.g ≠ g) : JF A (t ++ u) g r :=
 h.app (h.rel.appNot hu) fun op hop e => absurd e (hu op hop)
theorem TI.past (h : TI A H j t) {q : Nat} (hq : t.act? q = some (.mark (.acquire (stA A.Wg)))) (hg : t.g? q = some 0) (hh : t.heard q) (hd : Deaf t 0 = 0)
  (all : ∀ g, A.z0 < g → g ≤ j → ∃ r, JF A t g r ∧ r < q) : Past (fun l => A.Shun l ∨ ∃ ad, l = .cell ad ∧ ad.block = A.Wg) H.size t := by
 have le : ∀ i g, A.T0 ≤ i → t.g? i = some g → g ≤ j := fun i g hT hi => by
  obtain ⟨op, ho, rfl⟩ := Option.map_eq_some_iff.1 hi
  exact h.gs i op hT ho
 have edge : ∀ {g r : Nat}, JF A t g r → r < q → HappensBefore t r q := fun hr hrq => .single (.inr ⟨.marked hrq (.inr hr.rel.act) hq (fun k _ _ => h.norel k), hr.rel.heard, hh⟩)
 have upto : ∀ {g r i : Nat}, JF A t g r → r < q → t.g? i = some g → i ≤ r → HappensBefore t i q := by
  intro g r i hr hrq hgi hle
  rcases Nat.lt_or_ge i r with hlt | hge
  ·exact .trans (.single (.inl ⟨hlt, g, hgi, hr.rel.g⟩)) (edge hr hrq)
  ·obtain rfl : i = r := by omega
   exact edge hr hrq
 obtain ⟨zq, hzq, hzq'⟩ := Option.map_eq_some_iff.1 hg
 refine ⟨h.nr, fun i a ha hm => ?_, fun i g hgi hne hc => ?_, hd, h.seen⟩
 ·by_cases hi : i < A.T0
  ·exact (h.base 0 (.inl rfl) i a hi ha hm).imp id fun x => ⟨.inl x.1, x.2⟩
  ·obtain ⟨x, hx, hxa⟩ := touch_of ha
   obtain ⟨h1, _⟩ := h.new i a x.g (by omega) ha (g?_of hx)
   rcases h1 with h0 | hz
   ·exact .inl (h0 ▸ knows_own hx)
   ·obtain ⟨r, hr, hrq⟩ := all x.g hz (h.gs i x (by omega) hx)
    rcases Nat.lt_or_ge r i with hlt | hge
    ·obtain ⟨h2, h3⟩ := hr.late i a hlt ha (g?_of hx)
     exact .inr ⟨.inr h2, h3⟩
    ·exact .inl ⟨q, zq, hzq, hzq', .inr (upto hr hrq (g?_of hx) hge)⟩
 ·by_cases hi : i < A.T0
  ·exact h.over i g hi hgi hne hc
  ·obtain ⟨x, hx, _, _⟩ := id hc
   obtain ⟨h1, _⟩ := h.new i x g (by omega) hx hgi
   have hz : A.z0 < g := h1.resolve_left hne
   obtain ⟨r, hr, hrq⟩ := all g hz (le i g (by omega) hgi)
   have hle : i ≤ r := Nat.le_of_not_lt fun hlt => hr.rel.after i hlt hgi hc
   exact ⟨q, hg, upto hr hrq hgi hle⟩
theorem TI.begin {B : Nat} (hP : Past A.Shun B t) (hT : A.T0 = t.size) (hz : A.z0 = j) (hB : B ≤ A.Wg) (hs : A.Wg < H.size) : TI A H j t := by
 refine ⟨hP.clean, fun g hg i a _ ha hm => ?_, fun i a g hi ha _ => ?_, fun i op hT hi => by have := lt_size_of_getElem? hi; omega, fun op hop => MemAct.low_mono (by omega) (hP.seen op hop), fun i hi => ?_, fun i g _ hg hne hc => hP.over i g hg hne hc, by omega⟩
 ·have : g = 0 := by omega
  subst this
  exact hP.known i a ha hm
 ·obtain ⟨x, hx, _⟩ := touch_of ha
  have := lt_size_of_getElem? hx
  omega
 ·obtain ⟨op, ho, hoa⟩ := Option.map_eq_some_iff.1 hi
  have := hP.seen op (Array.mem_of_getElem? ho)
  rw [hoa] at this
  have : A.Wg < B := this
  omega
end
end Go.Proofs.YtkkmokodaejheaaDoor
namespace Go.Proofs.YtkkmokodaejheaaDoor
open Go Go.Conc
open Go.ConcR (stA smA rd wr KK WgAt Bk)
structure Cfg where
 P : Program
 ty : TypeId
 A : GQ
 m : Nat                                        -- how many keys
 N : Nat                                        -- how many goroutines beside the starter in the end (old leavers among them)
 CSh : World → Prop                             -- what holds of the keys' blocks all the time
 Res : Nat → (Nat → Prop) → World → Prop        -- key k's finding lies in its cells, and in these blocks
 Head : Goroutine → World → Prop                -- a worker at its loop's head
 Anch : Goroutine → World → Prop                -- the starter at the loop's head in Wait
 Tail : Goroutine → Prop                        -- the starter behind Wait's acquire
 z : Value
def none_ : Nat → Prop := fun _ => False
namespace Cfg
variable (c : Cfg)
def Sh (w : World) : Prop := Go.ConcN.WgLive c.ty c.A.Wg w ∧ (∃ cl s r tm, w.heap[c.A.Ch]? = some (.chan 0 #[] cl s r tm)) ∧ c.CSh w
def Said (e : Event) : Prop := ∃ a : Addr, a.block = c.A.Wg ∧ (e = ⟨.mark (.read a), false, true⟩ ∨ e = ⟨.mark (.write a), false, true⟩)
abbrev Rel (M : Nat → Prop) : World → World → Prop := BS M c.A.R c.Sh
abbrev WO (Stop : (Nat → Prop) → Goroutine → World → Prop) (g : Goroutine) (w : World) : Prop := Own c.P false c.A.R c.Sh (fun _ => False) Stop none_ g w
abbrev MO (Stop : (Nat → Prop) → Goroutine → World → Prop) (g : Goroutine) (w : World) : Prop := Own c.P true c.A.R c.Sh c.Said Stop none_ g w
abbrev WQ (Stop : Goroutine → World → Prop) (g : Goroutine) (w : World) : Prop := ∃ n, Goes c.P false (c.Rel none_) Go.ConcR.DC0 Stop n g w
def AtD4 (g : Goroutine) (w : World) : Prop :=
 g.status = .running ∧ mayWake c.P g = true ∧ (WgAt c.ty c.A.Wg w 0 0 → ∃ g', stepG c.P false g w = .go g' (w.setCell (smA c.A.Wg) (.int .u32 1)) (semEvents (smA c.A.Wg)) ∧ ∃ q, QuitsD c.P q 1 g')
def AtD3 (g : Goroutine) (w : World) : Prop :=
 g.status = .running ∧ (WgAt c.ty c.A.Wg w 1 0 → ∃ g', stepG c.P false g w = .go g' (w.setCell (stA c.A.Wg) (.int .u64 0)) #[wr (stA c.A.Wg)] ∧ c.WQ c.AtD4 g' (w.setCell (stA c.A.Wg) (.int .u64 0)))
def AtD2 (g : Goroutine) (w : World) : Prop :=
 g.status = .running ∧ (WgAt c.ty c.A.Wg w 1 0 → ∃ g', stepG c.P false g w = .go g' w #[rd (stA c.A.Wg)] ∧ c.WQ c.AtD3 g' w)
def AtD1 (g : Goroutine) (w : World) : Prop :=
 g.status = .running ∧ ∀ v wt : Nat, wt ≤ 1 → v < 2147483647 → WgAt c.ty c.A.Wg w ((v + 1) * KK + wt) 0 →
  ∃ g', stepG c.P false g w = .go g' (w.setCell (stA c.A.Wg) (.int .u64 (v * KK + wt))) #[rd (stA c.A.Wg), wr (stA c.A.Wg)] ∧
   ((v = 0 ∧ wt = 1) → c.WQ c.AtD2 g' (w.setCell (stA c.A.Wg) (.int .u64 (v * KK + wt)))) ∧ (¬ (v = 0 ∧ wt = 1) → ∃ q, QuitsD c.P q 1 g')
def AtK1 (g : Goroutine) (w : World) : Prop :=
 g.status = .running ∧ ∃ g', stepG c.P false g w = .go g' w #[Go.ConcR.mk .disable] ∧ c.WQ c.AtD1 g' w
def AtR0 (_ : Nat → Prop) (g : Goroutine) (w : World) : Prop :=
 g.status = .running ∧ ∃ g', stepG c.P false g w = .go g' w #[Go.ConcR.mk (.releaseMerge (stA c.A.Wg))] ∧ c.WQ c.AtK1 g' w
structure Lays (k : Nat) (w w' : World) : Prop where
 size : w'.heap.size = w.heap.size
 far : ∀ b, (∀ a, c.A.Mine k a → a.block ≠ b) → w'.heap[b]? = w.heap[b]?
 cells : ∀ a, ¬ c.A.Mine k a → w'.cell? a = w.cell? a
 tape : w'.tape = w.tape
 os : w'.os = w.os
 out : w'.output = w.output
def EA (k : Nat) (M : Nat → Prop) (g : Goroutine) (w : World) : Prop :=
 g.status = .running ∧ ∃ g' w' es, stepG c.P false g w = .go g' w' es ∧ c.Lays k w w' ∧ (∀ e ∈ es, ∃ a, e.loc = .cell a ∧ c.A.Mine k a) ∧ c.CSh w' ∧ c.Res k M w' ∧ c.Head g' w'
def Eo (_ : Nat → Prop) (g : Goroutine) (w : World) : Prop :=
 g.status = .running ∧ g.offers = none ∧ stepG c.P false g w = .comm g #[rcase c.A.Ch c.z] true (.recv true) w #[] ∧
  (∀ k : Nat, k < c.m → c.WO (c.EA k) (Go.Conc.served g (Go.Conc.recvd true (.int .i64 k) true)) w) ∧ c.WO c.AtR0 (Go.Conc.served g (Go.Conc.recvd true c.z false)) w
def E8 (M : Nat → Prop) (g : Goroutine) (w : World) : Prop := c.Eo M g w ∨ ∃ g2 cs sh, c.Eo M g2 w ∧ g = { Go.Conc.parked g2 cs sh with status := .running }
def AtAcq (_ : Nat → Prop) (g : Goroutine) (w : World) : Prop :=
 g.status = .running ∧ ∃ g', stepG c.P true g w = .go g' w #[Go.ConcR.mk (.acquire (stA c.A.Wg))] ∧ c.Tail g'
def AtKe (_ : Nat → Prop) (g : Goroutine) (w : World) : Prop :=
 g.status = .running ∧ ∃ g', stepG c.P true g w = .go g' w #[Go.ConcR.mk .enable] ∧ c.MO c.AtAcq g' w
def AtW4 (_ : Nat → Prop) (g : Goroutine) (w : World) : Prop :=
 g.status = .running ∧ (WgAt c.ty c.A.Wg w 0 0 → ∃ g', stepG c.P true g w = .go g' w #[rd (stA c.A.Wg)] ∧ c.MO c.AtKe g' w)
def AtW3 (_ : Nat → Prop) (g : Goroutine) (w : World) : Prop :=
 g.status = .running ∧ g.offers = none ∧
  ((∃ st, WgAt c.ty c.A.Wg w st 0) → stepG c.P true g w = .go { g with status := .blocked } w #[]) ∧
  (WgAt c.ty c.A.Wg w 0 1 → ∃ g', stepG c.P true g w = .go g' (w.setCell (smA c.A.Wg) (.int .u32 0)) (semEvents (smA c.A.Wg)) ∧ c.MO c.AtW4 g' (w.setCell (smA c.A.Wg) (.int .u32 0)))
def AtW2 (vs : Nat) (_ : Nat → Prop) (g : Goroutine) (w : World) : Prop :=
 g.status = .running ∧ ∀ v : Nat, v < 2147483648 → WgAt c.ty c.A.Wg w (v * KK) 0 →
  (v = vs → ∃ g', stepG c.P true g w = .go g' (w.setCell (stA c.A.Wg) (.int .u64 (v * KK + 1))) #[rd (stA c.A.Wg), wr (stA c.A.Wg)] ∧ c.MO c.AtW3 g' (w.setCell (stA c.A.Wg) (.int .u64 (v * KK + 1)))) ∧
  (v ≠ vs → ∃ g', stepG c.P true g w = .go g' w #[rd (stA c.A.Wg)] ∧ c.MO (fun _ => c.Anch) g' w)
def AtW1 (_ : Nat → Prop) (g : Goroutine) (w : World) : Prop :=
 g.status = .running ∧ ∀ v : Nat, v < 2147483648 → WgAt c.ty c.A.Wg w (v * KK) 0 → ∃ g', stepG c.P true g w = .go g' w #[rd (stA c.A.Wg)] ∧
  (v = 0 → c.MO c.AtKe g' w) ∧ (v ≠ 0 → c.MO (c.AtW2 v) g' w)
def AtKd (_ : Nat → Prop) (g : Goroutine) (w : World) : Prop :=
 g.status = .running ∧ ∃ g', stepG c.P true g w = .go g' w #[Go.ConcR.mk .disable] ∧ c.MO (fun _ => c.Anch) g' w
def AtClose (_ : Nat → Prop) (g : Goroutine) (w : World) : Prop :=
 g.status = .running ∧ mayWake c.P g = true ∧ ∀ s r tm, w.heap[c.A.Ch]? = some (.chan 0 #[] false s r tm) →
  ∃ g', g'.status = .running ∧ stepG c.P true g w = .go g' (w.setChan c.A.Ch 0 #[] true s r tm) #[⟨.obj c.A.Ch, false, true⟩, ⟨.obj c.A.Ch, true, true⟩] ∧ c.MO c.AtKd g' (w.setChan c.A.Ch 0 #[] true s r tm)
def AtSend (k : Nat) (Next : Goroutine → World → Prop) (_ : Nat → Prop) (g : Goroutine) (w : World) : Prop :=
 g.status = .running ∧ g.offers = none ∧ ∃ z, stepG c.P true g w = .comm g #[scase c.A.Ch (.int .i64 k) z] true .send w #[] ∧ Next (Go.Conc.served g undef) w
def Sends : Nat → Goroutine → World → Prop
 | 0, g, w => c.MO c.AtClose g w
 | r + 1, g, w => c.MO (c.AtSend (c.m - (r + 1)) (Sends r)) g w
def AtGoS (Next : Goroutine → World → Prop) (_ : Nat → Prop) (g : Goroutine) (w : World) : Prop :=
 g.status = .running ∧ ∃ g' child, stepG c.P true g w = .spawn g' child w #[] ∧ child.status = .running ∧ c.WO c.Eo child w ∧ Next g' w
def AtKeS (Next : Goroutine → World → Prop) (_ : Nat → Prop) (g : Goroutine) (w : World) : Prop :=
 g.status = .running ∧ ∃ g', stepG c.P true g w = .go g' w #[Go.ConcR.mk .enable] ∧ c.MO (c.AtGoS Next) g' w
def AtA1 (Next : Goroutine → World → Prop) (_ : Nat → Prop) (g : Goroutine) (w : World) : Prop :=
 g.status = .running ∧ ∀ v : Nat, v < 2147483647 → WgAt c.ty c.A.Wg w (v * KK) 0 →
  ∃ g', stepG c.P true g w = .go g' (w.setCell (stA c.A.Wg) (.int .u64 ((v + 1) * KK))) #[rd (stA c.A.Wg), wr (stA c.A.Wg)] ∧
   c.MO (c.AtKeS Next) g' (w.setCell (stA c.A.Wg) (.int .u64 ((v + 1) * KK)))
def AtKdS (Next : Goroutine → World → Prop) (_ : Nat → Prop) (g : Goroutine) (w : World) : Prop :=
 g.status = .running ∧ ∃ g', stepG c.P true g w = .go g' w #[Go.ConcR.mk .disable] ∧ c.MO (c.AtA1 Next) g' w
def Spawns : Nat → Goroutine → World → Prop
 | 0, g, w => c.Sends c.m g w
 | r + 1, g, w => c.MO (c.AtKdS (Spawns r)) g w
theorem Qg : ∀ {r : Nat} {g : Goroutine} {w w1 : World}, c.Sends r g w → c.Rel none_ w w1 → c.Sends r g w1
 | 0, g, w, w1, h, hr => Own.rely h hr
 | r + 1, g, w, w1, h, hr => Own.rely h hr
structure Ok0 : Prop where
 area : c.A.Ok
 csh : ∀ w w', w.heap.size ≤ w'.heap.size → (∀ b, b < c.A.B0 → b ≠ c.A.Wg → b ≠ c.A.Ch → w'.heap[b]? = w.heap[b]?) → c.CSh w → c.CSh w'
structure Ok : Prop extends c.Ok0 where
 res : ∀ k D w w', (∀ b, D b → w'.heap[b]? = w.heap[b]?) → (∀ a, c.A.Mine k a → w'.cell? a = w.cell? a) → c.Res k D w → c.Res k D w'
 head : ∀ g w, c.Sh w → c.Head g w → c.WO c.Eo g w
 anch : ∀ g w, c.Anch g w → c.MO c.AtW1 g w
 anchR : ∀ g w, c.Anch g w → g.status = .running
 N : c.N < 2147483648
 z0 : c.A.z0 < c.N
end Cfg
end Go.Proofs.YtkkmokodaejheaaDoor
namespace Go.Proofs.YtkkmokodaejheaaDoor
open Go Go.Conc
open Go.ConcR (stA smA rd wr KK WgAt Bk)
open Go.ConcN (upd upd_same upd_ne sumTo sumTo_upd CTag Mode WD Vc OpenSt AllQuit isOpen isFin isW3)
inductive WS where
 | take | park | busy (k : Nat) | r0 | k1 | d1 | d2 | d3 | d4 | quit
def WS.num : WS → Nat
 | .take | .park | .busy _ | .r0 => 7
 | .k1 => 6 | .d1 => 5 | .d2 => 4 | .d3 => 3 | .d4 => 2 | .quit => 1
def WS.wt : WS → Nat
 | .busy _ => 10 | .take => 9 | .park => 8 | .r0 => 7 | .k1 => 6 | .d1 => 5 | .d2 => 4 | .d3 => 3 | .d4 => 2 | .quit => 1
def WS.loops : WS → Prop
 | .take | .park | .busy _ => True
 | _ => False
structure GD where
 st : WS
 M : Nat → Prop
 tr : Tr
 deaf : Nat
def GD.wd (d : GD) : WD := ⟨d.st.num, 0, 0⟩
inductive MT where
 | sp (r s : Nat) | send (r : Nat) | psend (r : Nat) | clos | kd | anch | w1 | w2 (vs : Nat) | w3 | blk | w4 | ke | acq | done
def MT.ct : MT → CTag
 | .sp r s => .sp r s
 | .send _ | .psend _ | .clos | .kd => .kd
 | .anch => .anch | .w1 => .w1 | .w2 vs => .w2 vs | .w3 => .w3 | .blk => .blk | .w4 => .w4 | .ke => .ke | .acq => .acq | .done => .ret
def MT.opn : MT → Bool
 | .sp _ _ | .send _ | .psend _ | .clos => true
 | _ => false
def MT.started (N : Nat) : MT → Nat
 | .sp r _ => N - (r + 1)
 | _ => N
def MT.nx (m : Nat) : MT → Nat
 | .sp _ _ => 0
 | .send r | .psend r => m - (r + 1)
 | _ => m
def MT.fits (N z0 m : Nat) : MT → Prop
 | .sp r _ => r + z0 < N
 | .send r | .psend r => r < m
 | _ => True
def MT.phi (N m v : Nat) : MT → Nat
 | .sp r s => 9 * N + 4 * m + 20 + 32 * (r + 1) + s
 | .send r => 9 * N + 4 * (r + 1) + 9
 | .psend r => 9 * N + 4 * (r + 1) + 8
 | .clos => 9 * N + 8
 | .kd => 8 * N + 7
 | .anch => 8 * v + 6 | .w1 => 8 * v + 5 | .w2 vs => 8 * vs + 4
 | .w3 => 5 | .blk => 5 | .w4 => 4 | .ke => 3 | .acq => 2 | .done => 1
theorem MT.phi_mono (N m : Nat) {v v' : Nat} (h : v' ≤ v) (tag : MT) : tag.phi N m v' ≤ tag.phi N m v := by
 cases tag <;> simp only [MT.phi] <;> omega
namespace Cfg
variable (c : Cfg)
abbrev WT' (Stop : (Nat → Prop) → Goroutine → World → Prop) (τ : Tr) (M : Nat → Prop) (g : Goroutine) (w : World) : Prop := D6 c.P false c.A.R c.Sh (fun _ => False) Stop τ M g w
abbrev MT' (Stop : (Nat → Prop) → Goroutine → World → Prop) (τ : Tr) (M : Nat → Prop) (g : Goroutine) (w : World) : Prop := D6 c.P true c.A.R c.Sh c.Said Stop τ M g w
inductive WSit : GD → Goroutine → World → Prop
 | take {M : Nat → Prop} {τ : Tr} {g : Goroutine} {w : World} : c.WT' c.E8 τ M g w → WSit ⟨.take, M, τ, 0⟩ g w
 | park {M : Nat → Prop} {g : Goroutine} {w : World} : (∀ w1, c.Rel M w w1 → c.Eo M g w1) → WSit ⟨.park, M, .leaf, 0⟩ (Go.Conc.parked g #[rcase c.A.Ch c.z] (.recv true)) w
 | busy {k : Nat} {M : Nat → Prop} {τ : Tr} {g : Goroutine} {w : World} : c.WT' (c.EA k) τ M g w → WSit ⟨.busy k, M, τ, 0⟩ g w
 | r0 {M : Nat → Prop} {τ : Tr} {g : Goroutine} {w : World} : c.WT' c.AtR0 τ M g w → WSit ⟨.r0, M, τ, 0⟩ g w
 | k1 {n : Nat} {g : Goroutine} {w : World} : Goes c.P false (c.Rel none_) Go.ConcR.DC0 c.AtK1 n g w → WSit ⟨.k1, none_, .chain n, 0⟩ g w
 | d1 {n : Nat} {g : Goroutine} {w : World} : Goes c.P false (c.Rel none_) Go.ConcR.DC0 c.AtD1 n g w → WSit ⟨.d1, none_, .chain n, 1⟩ g w
 | d2 {n : Nat} {g : Goroutine} {w : World} : Goes c.P false (c.Rel none_) Go.ConcR.DC0 c.AtD2 n g w → WSit ⟨.d2, none_, .chain n, 1⟩ g w
 | d3 {n : Nat} {g : Goroutine} {w : World} : Goes c.P false (c.Rel none_) Go.ConcR.DC0 c.AtD3 n g w → WSit ⟨.d3, none_, .chain n, 1⟩ g w
 | d4 {n : Nat} {g : Goroutine} {w : World} : Goes c.P false (c.Rel none_) Go.ConcR.DC0 c.AtD4 n g w → WSit ⟨.d4, none_, .chain n, 1⟩ g w
 | quit {q d : Nat} {g : Goroutine} {w : World} : QuitsD c.P q d g → WSit ⟨.quit, none_, .chain q, d⟩ g w
inductive Dc : MT → (Nat → Prop) → Tr → Nat → Goroutine → World → Prop
 | skd {r : Nat} {M : Nat → Prop} {τ : Tr} {g : Goroutine} {w : World} : c.MT' (c.AtKdS (c.Spawns r)) τ M g w → Dc (.sp r 5) M τ 0 g w
 | sa1 {r : Nat} {M : Nat → Prop} {τ : Tr} {g : Goroutine} {w : World} : c.MT' (c.AtA1 (c.Spawns r)) τ M g w → Dc (.sp r 4) M τ 1 g w
 | ske {r : Nat} {M : Nat → Prop} {τ : Tr} {g : Goroutine} {w : World} : c.MT' (c.AtKeS (c.Spawns r)) τ M g w → Dc (.sp r 3) M τ 1 g w
 | sgo {r : Nat} {M : Nat → Prop} {τ : Tr} {g : Goroutine} {w : World} : c.MT' (c.AtGoS (c.Spawns r)) τ M g w → Dc (.sp r 2) M τ 0 g w
 | send {r : Nat} {M : Nat → Prop} {τ : Tr} {g : Goroutine} {w : World} : c.MT' (c.AtSend (c.m - (r + 1)) (c.Sends r)) τ M g w → Dc (.send r) M τ 0 g w
 | psend {r : Nat} {M : Nat → Prop} {z : Value} {g : Goroutine} {w : World} : (∀ w1, c.Rel M w w1 → c.AtSend (c.m - (r + 1)) (c.Sends r) M g w1) → Dc (.psend r) M .leaf 0 (Go.Conc.parked g #[scase c.A.Ch (.int .i64 (c.m - (r + 1) : Nat)) z] .send) w
 | clos {M : Nat → Prop} {τ : Tr} {g : Goroutine} {w : World} : c.MT' c.AtClose τ M g w → Dc .clos M τ 0 g w
 | kd {M : Nat → Prop} {τ : Tr} {g : Goroutine} {w : World} : c.MT' c.AtKd τ M g w → Dc .kd M τ 0 g w
 | anch {M : Nat → Prop} {τ : Tr} {g : Goroutine} {w : World} : c.MT' (fun _ => c.Anch) τ M g w → Dc .anch M τ 1 g w
 | w1 {M : Nat → Prop} {τ : Tr} {g : Goroutine} {w : World} : c.MT' c.AtW1 τ M g w → Dc .w1 M τ 1 g w
 | w2 {vs : Nat} {M : Nat → Prop} {τ : Tr} {g : Goroutine} {w : World} : c.MT' (c.AtW2 vs) τ M g w → Dc (.w2 vs) M τ 1 g w
 | w3 {M : Nat → Prop} {τ : Tr} {g : Goroutine} {w : World} : c.MT' c.AtW3 τ M g w → Dc .w3 M τ.wrap 1 g w
 | blk {M : Nat → Prop} {g : Goroutine} {w : World} : (∀ w1, c.Rel M w w1 → c.AtW3 M g w1) → Dc .blk M .leaf 1 { g with status := .blocked } w
 | w4 {M : Nat → Prop} {τ : Tr} {g : Goroutine} {w : World} : c.MT' c.AtW4 τ M g w → Dc .w4 M τ 1 g w
 | ke {M : Nat → Prop} {τ : Tr} {g : Goroutine} {w : World} : c.MT' c.AtKe τ M g w → Dc .ke M τ 1 g w
 | acq {M : Nat → Prop} {τ : Tr} {g : Goroutine} {w : World} : c.MT' c.AtAcq τ M g w → Dc .acq M τ 0 g w
 | done {M : Nat → Prop} {g : Goroutine} {w : World} : c.Tail g → Dc .done M .leaf 0 g w
variable {c}
theorem Df {M : Nat → Prop} {w w1 : World} (h : c.Rel M w w1) : c.Rel none_ w w1 := ⟨h.size, fun k hk => h.mine k (.inr (hk.resolve_left id)), h.tape, h.os, h.out, h.sh⟩
theorem WSit.rely {d : GD} {g : Goroutine} {w w1 : World} (h : c.WSit d g w) (hr : c.Rel d.M w w1) : c.WSit d g w1 := by
 cases h with
 | take h => exact .take (h.rely hr)
 | park h => exact .park fun w2 h2 => h w2 (hr.trans h2)
 | busy h => exact .busy (h.rely hr)
 | r0 h => exact .r0 (h.rely hr)
 | k1 h => exact .k1 (Goes.rely (fun _ _ _ h1 h2 => h1.trans h2) h (Df hr))
 | d1 h => exact .d1 (Goes.rely (fun _ _ _ h1 h2 => h1.trans h2) h (Df hr))
 | d2 h => exact .d2 (Goes.rely (fun _ _ _ h1 h2 => h1.trans h2) h (Df hr))
 | d3 h => exact .d3 (Goes.rely (fun _ _ _ h1 h2 => h1.trans h2) h (Df hr))
 | d4 h => exact .d4 (Goes.rely (fun _ _ _ h1 h2 => h1.trans h2) h (Df hr))
 | quit h => exact .quit h
theorem Dc.rely {tag : MT} {M : Nat → Prop} {τ : Tr} {d : Nat} {g : Goroutine} {w w1 : World} (h : c.Dc tag M τ d g w) (hr : c.Rel M w w1) : c.Dc tag M τ d g w1 := by
 cases h with
 | skd h => exact .skd (h.rely hr)
 | sa1 h => exact .sa1 (h.rely hr)
 | ske h => exact .ske (h.rely hr)
 | sgo h => exact .sgo (h.rely hr)
 | send h => exact .send (h.rely hr)
 | psend h => exact .psend fun w2 h2 => h w2 (hr.trans h2)
 | clos h => exact .clos (h.rely hr)
 | kd h => exact .kd (h.rely hr)
 | anch h => exact .anch (h.rely hr)
 | w1 h => exact .w1 (h.rely hr)
 | w2 h => exact .w2 (h.rely hr)
 | w3 h => exact .w3 (h.rely hr)
 | blk h => exact .blk fun w2 h2 => h w2 (hr.trans h2)
 | w4 h => exact .w4 (h.rely hr)
 | ke h => exact .ke (h.rely hr)
 | acq h => exact .acq (h.rely hr)
 | done h => exact .done h
theorem E8.running {M : Nat → Prop} {g : Goroutine} {w : World} (h : c.E8 M g w) : g.status = .running := by
 rcases h with h | ⟨g2, cs, sh, h, rfl⟩
 ·exact h.1
 ·rfl
theorem WSit.status {d : GD} {g : Goroutine} {w : World} (h : c.WSit d g w) : (g.status = .running ∧ d.st ≠ .park) ∨ (g.status = .finished ∧ d.st = .quit) ∨ (g.status = .blocked ∧ d.st = .park) := by
 cases h with
 | take h => exact .inl ⟨D6.running (fun _ _ _ x => E8.running x) h, by simp⟩
 | park h => exact .inr (.inr ⟨rfl, rfl⟩)
 | busy h => exact .inl ⟨D6.running (fun _ _ _ x => x.1) h, by simp⟩
 | r0 h => exact .inl ⟨D6.running (fun _ _ _ x => x.1) h, by simp⟩
 | k1 h => exact .inl ⟨Goes.running (fun _ _ x => x.1) w (.refl ..) h, by simp⟩
 | d1 h => exact .inl ⟨Goes.running (fun _ _ x => x.1) w (.refl ..) h, by simp⟩
 | d2 h => exact .inl ⟨Goes.running (fun _ _ x => x.1) w (.refl ..) h, by simp⟩
 | d3 h => exact .inl ⟨Goes.running (fun _ _ x => x.1) w (.refl ..) h, by simp⟩
 | d4 h => exact .inl ⟨Goes.running (fun _ _ x => x.1) w (.refl ..) h, by simp⟩
 | quit h => exact h.status.elim (fun x => .inl ⟨x, by simp⟩) fun x => .inr (.inl ⟨x, rfl⟩)
theorem WSit.running {d : GD} {g : Goroutine} {w : World} (h : c.WSit d g w) (hp : d.st ≠ .park) (hq : d.st ≠ .quit) : g.status = .running := by
 rcases h.status with h | h | h
 ·exact h.1
 ·exact absurd h.2 hq
 ·exact absurd h.2 hp
theorem Dc.status (K : c.Ok) {tag : MT} {M : Nat → Prop} {τ : Tr} {d : Nat} {g : Goroutine} {w : World} (h : c.Dc tag M τ d g w) (hd : tag ≠ .done) :
  (g.status = .running ∧ tag ≠ .blk ∧ ∀ r, tag ≠ .psend r) ∨ (g.status = .blocked ∧ (tag = .blk ∨ ∃ r, tag = .psend r)) := by
 cases h with
 | skd h => exact .inl ⟨D6.running (fun _ _ _ x => x.1) h, by simp, by simp⟩
 | sa1 h => exact .inl ⟨D6.running (fun _ _ _ x => x.1) h, by simp, by simp⟩
 | ske h => exact .inl ⟨D6.running (fun _ _ _ x => x.1) h, by simp, by simp⟩
 | sgo h => exact .inl ⟨D6.running (fun _ _ _ x => x.1) h, by simp, by simp⟩
 | send h => exact .inl ⟨D6.running (fun _ _ _ x => x.1) h, by simp, by simp⟩
 | psend h => exact .inr ⟨rfl, .inr ⟨_, rfl⟩⟩
 | clos h => exact .inl ⟨D6.running (fun _ _ _ x => x.1) h, by simp, by simp⟩
 | kd h => exact .inl ⟨D6.running (fun _ _ _ x => x.1) h, by simp, by simp⟩
 | anch h => exact .inl ⟨D6.running (fun _ _ _ x => K.anchR _ _ x) h, by simp, by simp⟩
 | w1 h => exact .inl ⟨D6.running (fun _ _ _ x => x.1) h, by simp, by simp⟩
 | w2 h => exact .inl ⟨D6.running (fun _ _ _ x => x.1) h, by simp, by simp⟩
 | w3 h => exact .inl ⟨D6.running (fun _ _ _ x => x.1) h, by simp, by simp⟩
 | blk h => exact .inr ⟨rfl, .inl rfl⟩
 | w4 h => exact .inl ⟨D6.running (fun _ _ _ x => x.1) h, by simp, by simp⟩
 | ke h => exact .inl ⟨D6.running (fun _ _ _ x => x.1) h, by simp, by simp⟩
 | acq h => exact .inl ⟨D6.running (fun _ _ _ x => x.1) h, by simp, by simp⟩
 | done h => exact absurd rfl hd
theorem WSit.woken {d : GD} {g : Goroutine} {w w' : World} (h : c.WSit d g w) (a a' : Goroutine) (ho : d.st = .park → ∃ s r tm, w'.heap[c.A.Ch]? = some (.chan 0 #[] false s r tm)) : woken c.P a a' w' g = g := by
 rcases h.status with ⟨hs, _⟩ | ⟨hs, _⟩ | ⟨hs, hp⟩
 ·unfold Go.Conc.woken; split
  ·exact again_running _ (.inl hs)
  ·rfl
 ·unfold Go.Conc.woken; split
  ·exact again_running _ (.inr hs)
  ·rfl
 ·obtain ⟨s, r, tm, hc⟩ := ho hp
  cases h with
  | park h => exact woken_recv_open a a' hc
  | quit h => cases hp
  | _ => cases hp
theorem Dc.wokenBy (K : c.Ok) {tag : MT} {M : Nat → Prop} {τ : Tr} {d : Nat} {a : Goroutine} {w w' : World} (h : c.Dc tag M τ d a w) (hd : tag ≠ .done) (hr : c.Rel M w w') (g g' : Goroutine)
  (ho : ∀ r, tag = .psend r → ∃ s q tm, w'.heap[c.A.Ch]? = some (.chan 0 #[] false s q tm)) :
  ∃ tag' τ', c.Dc tag' M τ' d (Go.Conc.woken c.P g g' w' a) w' ∧ ((tag' = tag ∧ τ' = τ) ∨ (tag = .blk ∧ tag' = .w3)) ∧ (mayWake c.P g = true → g'.status = .running → tag' ≠ .blk) := by
 have h' := h.rely hr
 rcases h'.status K hd with ⟨hs, hne, _⟩ | ⟨_, rfl | ⟨r, rfl⟩⟩
 ·exact ⟨tag, τ, by rw [woken_running hs]; exact h', .inl ⟨rfl, rfl⟩, fun _ _ => hne⟩
 ·cases h' with
  | blk hb =>
   rename_i g0
   have h3 := hb w' (.refl ..)
   unfold Go.Conc.woken
   split
   ·refine ⟨.w3, Tr.wrap .leaf, ?_, .inr ⟨rfl, rfl⟩, fun _ _ => by simp⟩
    rw [Go.ConcR.again_blocked h3.1 h3.2.1]
    exact .w3 (τ := .leaf) hb
   ·rename_i hc
    exact ⟨.blk, .leaf, .blk hb, .inl ⟨rfl, rfl⟩, fun h1 h2 => absurd (by simp [h1, h2]) hc⟩
 ·obtain ⟨s, q, tm, hc⟩ := ho r rfl
  refine ⟨.psend r, τ, ?_, .inl ⟨rfl, rfl⟩, fun _ _ => by simp⟩
  have e : Go.Conc.woken c.P g g' w' a = a := by
   cases h' with
   | psend hb => exact woken_send_open g g' hc
  rw [e]; exact h'
end Cfg
end Go.Proofs.YtkkmokodaejheaaDoor
namespace Go.Proofs.YtkkmokodaejheaaDoor
open Go Go.Conc
open Go.ConcR (stA smA rd wr KK WgAt Bk g_of_ofEvents)
open Go.ConcN (upd upd_same upd_ne sumTo sumTo_upd CTag Mode WD Vc OpenSt AllQuit isOpen isFin isW3 cnt Vc_upd get_map_set get_map_set_same)
def Cn.grow (H : Cn) (n g : Nat) : Cn := { H with size := n, own := fun b => if b < H.size then H.own b else g }
theorem Cn.grow_le (H : Cn) {n : Nat} (g : Nat) (h : H.size ≤ n) : H.Le (H.grow n g) :=
 ⟨h, fun b hb => by simp [Cn.grow, hb], Nat.le_refl _, fun _ _ => rfl⟩
namespace Cfg
variable (c : Cfg)
structure Eff (M : Nat → Prop) (w w' : World) : Prop where
 size : w.heap.size ≤ w'.heap.size
 keep : ∀ b, b < w.heap.size → c.A.R b ∨ (c.A.B0 ≤ b ∧ ¬ M b) → w'.heap[b]? = w.heap[b]?
 tape : w'.tape = w.tape
 os : w'.os = w.os
 out : w'.output = w.output
variable {c}
theorem Eff.refl (M : Nat → Prop) (w : World) : c.Eff M w w := ⟨Nat.le_refl _, fun _ _ _ => rfl, rfl, rfl, rfl⟩
theorem Eff.rel (K : c.Ok) {M M' : Nat → Prop} {w w' : World} (h : c.Eff M w w') (hB : c.A.B0 ≤ w.heap.size) (hsh : c.Sh w') (hM : ∀ b, M' b → c.A.B0 ≤ b ∧ b < w.heap.size ∧ ¬ M b) : c.Rel M' w w' :=
 ⟨h.size, fun b hb => hb.elim (fun x => let ⟨h1, h2, h3⟩ := hM b x; h.keep b h2 (.inr ⟨h1, h3⟩)) fun x => h.keep b (Nat.lt_of_lt_of_le (K.area.rB b x) hB) (.inl x), h.tape, h.os, h.out, fun _ => hsh⟩
theorem Eff.own {M : Nat → Prop} {w w' : World} (K : c.Ok) (h : Ay M w w') (hM : ∀ b, M b → c.A.B0 ≤ b) : c.Eff M w w' :=
 ⟨h.size, fun b hb hx => h.rest b (fun hm => hx.elim (fun x => by have := hM b hm; have := K.area.rB b x; omega) fun x => x.2 hm) hb, h.tape, h.os, h.out⟩
theorem Eff.low {M : Nat → Prop} {w w' : World} (K : c.Ok) (x : Nat) (hx : x < c.A.B0) (hxR : ¬ c.A.R x) (hs : w'.heap.size = w.heap.size) (hk : ∀ b, b ≠ x → w'.heap[b]? = w.heap[b]?) (ht : w'.tape = w.tape) (ho : w'.os = w.os) (hp : w'.output = w.output) : c.Eff M w w' :=
 ⟨Nat.le_of_eq hs.symm, fun b _ hb => hk b (fun e => by subst e; exact hb.elim (fun y => hxR y) fun y => by omega), ht, ho, hp⟩
theorem Eff.setCell {M : Nat → Prop} (K : c.Ok) (w : World) (p : Addr) (v : Value) (hp : p.block = c.A.Wg) : c.Eff M w (w.setCell p v) :=
 .low K c.A.Wg K.area.wB (fun h => (K.area.rW _ h).1 rfl) (by simp [World.setCell]) (fun b hb => by simp only [World.setCell, Array.getElem?_modify]; rw [if_neg (by rw [hp]; exact fun e => hb e.symm)]) rfl rfl rfl
variable (c) in
structure BO (w0 : World) (gs : Array Goroutine) (w : World) (t : Trace) (j : Nat) (D : Nat → GD) (tag : MT) (M0 : Nat → Prop) (τ0 : Tr) (d0 : Nat) (a : Goroutine) (st sm : Int) (H : Cn) : Prop where
 size : gs.size = j + 1
 ha : gs[0]? = some a
 ms : c.Dc tag M0 τ0 d0 a w
 jj : tag.started c.N = j
 fits : tag.fits c.N c.A.z0 c.m
 nx : H.nx = tag.nx c.m
 wk : ∀ i, i < j → ∃ g, gs[i + 1]? = some g ∧ c.WSit (D i) g w
 old : ∀ i, i < c.A.z0 → (D i).st = .quit
 opn : tag.opn = true → ∀ i, c.A.z0 ≤ i → i < j → (D i).st.loops
 nopark : tag.opn = false ∨ (∃ r, tag = .psend r) → ∀ i, i < j → (D i).st ≠ .park
 ch : ∃ s r tm, w.heap[c.A.Ch]? = some (.chan 0 #[] (!tag.opn) s r tm)
 wg : WgAt c.ty c.A.Wg w st sm
 mode : Go.ConcN.Mode j (fun a => (D a).wd) tag.ct st sm
 csh : c.CSh w
 ti : TI c.A H j t
 hsize : H.size = w.heap.size
 hB : c.A.B0 ≤ w.heap.size
 mem : ∀ i, i < j → ∀ b, (D i).M b → c.A.B0 ≤ b ∧ b < w.heap.size ∧ H.own b = i + 1
 mem0 : ∀ b, M0 b → c.A.B0 ≤ b ∧ b < w.heap.size ∧ H.own b = 0
 deaf0 : Deaf t 0 = d0
 deafW : ∀ i, i < j → Deaf t (i + 1) = (D i).deaf
 above : ∀ g, j < g → Deaf t g = 0
 rel : ∀ i, c.A.z0 ≤ i → i < j → (D i).st.num ≤ 6 → ∃ r, JF c.A t (i + 1) r
 keys : ∀ k, k < H.nx → (∃ i, i < j ∧ (D i).st = .busy k ∧ H.hold k = i + 1) ∨ (∃ Dk : Nat → Prop, c.Res k Dk w ∧ ∀ b, Dk b → c.A.B0 ≤ b ∧ b < w.heap.size ∧ ¬ M0 b ∧ ∀ i, i < j → ¬ (D i).M b)
 busy : ∀ i, i < j → ∀ k, (D i).st = .busy k → k < H.nx ∧ H.hold k = i + 1
 rw0 : c.Rel none_ w0 w
 acq : tag = .done → ∃ q, t.act? q = some (.mark (.acquire (stA c.A.Wg))) ∧ t.g? q = some 0 ∧ t.heard q ∧ ∀ g, c.A.z0 < g → g ≤ j → ∃ r, JF c.A t g r ∧ r < q
variable (c) in
def mu (j : Nat) (D : Nat → GD) (tag : MT) (τ0 : Tr) : Mu := (tag.phi c.N c.m (Vc j fun a => (D a).wd) + sumTo j (fun i => (D i).st.wt), (fun i => (D i).tr, τ0))
variable (c) in
def Kb (w0 : World) (μ : Mu) (m : Machine) (t : Trace) : Prop :=
 ∃ (gs : Array Goroutine) (w : World) (sl : Option (Nat × Nat)) (j : Nat) (D : Nat → GD) (tag : MT) (M0 : Nat → Prop) (τ0 : Tr) (d0 : Nat) (a : Goroutine) (st sm : Int) (H : Cn),
  m = crowd gs w sl ∧ c.BO w0 gs w t j D tag M0 τ0 d0 a st sm H ∧ μ = c.mu j D tag τ0
section
variable {w0 w w' : World} {gs : Array Goroutine} {t : Trace} {j : Nat} {D : Nat → GD} {tag : MT} {M0 : Nat → Prop} {τ0 : Tr} {d0 : Nat} {a : Goroutine} {st sm : Int} {H : Cn} {sl : Option (Nat × Nat)}
theorem BO.sh (I : c.BO w0 gs w t j D tag M0 τ0 d0 a st sm H) : c.Sh w := ⟨⟨_, _, I.wg⟩, let ⟨s, r, tm, h⟩ := I.ch; ⟨_, s, r, tm, h⟩, I.csh⟩
theorem BO.jN (I : c.BO w0 gs w t j D tag M0 τ0 d0 a st sm H) : j ≤ c.N := by
 have := I.jj
 subst this
 unfold MT.started
 split <;> omega
theorem G8 (D : Nat → GD) (i : Nat) (d : GD) : (fun a => (upd D i d a).wd) = upd (fun a => (D a).wd) i d.wd := by
 funext a
 by_cases e : a = i
 ·subst e; rw [upd_same, upd_same]
 ·rw [upd_ne D _ e, upd_ne _ _ e]
theorem workerStep (K : c.Ok) (I : c.BO w0 gs w t j D tag M0 τ0 d0 a st sm H) (hnd : tag ≠ .done) {i : Nat} (hi : i < j) {g g' : Goroutine} {es : Array Event} {d' : GD} {st' sm' : Int}
  (hg : gs[i + 1]? = some g) (hgo : stepG c.P false g w = .go g' w' es) (eff : c.Eff (D i).M w w')
  (hch : w'.heap[c.A.Ch]? = w.heap[c.A.Ch]?) (hcsh : c.CSh w') (hwg' : WgAt c.ty c.A.Wg w' st' sm') (hs' : c.WSit d' g' w')
  (hti : TI c.A (H.grow w'.heap.size (i + 1)) j (t ++ MemOp.ofEvents (i + 1) g.frame.fn g.frame.place es)) (hdeaf : deafBehind (D i).deaf es = d'.deaf)
  (hrel : c.A.z0 ≤ i → d'.st.num ≤ 6 → ∃ r, JF c.A (t ++ MemOp.ofEvents (i + 1) g.frame.fn g.frame.place es) (i + 1) r)
  (hM : ∀ b, d'.M b → (D i).M b ∨ (w.heap.size ≤ b ∧ b < w'.heap.size))
  (hmode : ∀ tag', (tag' = tag ∨ (tag = .blk ∧ tag' = .w3)) → (mayWake c.P g = true → g'.status = .running → tag' ≠ .blk) → Go.ConcN.Mode j (upd (fun a => (D a).wd) i d'.wd) tag'.ct st' sm')
  (hold_ : i < c.A.z0 → d'.st = .quit) (hopen : tag.opn = true → c.A.z0 ≤ i → d'.st.loops) (hpark : d'.st ≠ .park)
  (hcell : ∀ k a, c.A.Mine k a → (D i).st ≠ .busy k → w'.cell? a = w.cell? a)
  (hk : ∀ k, (D i).st = .busy k → d'.st = .busy k ∨ (c.Res k (D i).M w' ∧ d'.M = none_)) (hk' : ∀ k, d'.st = .busy k → (D i).st = .busy k)
  (hlt : (d'.st.wt < (D i).st.wt ∧ cnt d'.wd ≤ cnt (D i).wd) ∨ (d'.st.wt = (D i).st.wt ∧ cnt d'.wd = cnt (D i).wd ∧ Tr.lt d'.tr (D i).tr)) :
  ∃ m1 ops μ', runT c.P (crowd gs w sl) (i + 1) = (.next m1, ops) ∧ Ka c.N μ' (c.mu j D tag τ0) ∧ c.Kb w0 μ' m1 (t ++ ops) := by
 have hsh' : c.Sh w' := ⟨⟨_, _, hwg'⟩, let ⟨s, r, tm, h⟩ := I.ch; ⟨_, s, r, tm, hch.trans h⟩, hcsh⟩
 have disj : ∀ i' b, i' < j → i' ≠ i → (D i').M b → ¬ (D i).M b := fun i' b hi' hne h1 h2 => by
  have := (I.mem i' hi' b h1).2.2
  have := (I.mem i hi b h2).2.2
  omega
 have hr0 : c.Rel M0 w w' := eff.rel K I.hB hsh' fun b hb => ⟨(I.mem0 b hb).1, (I.mem0 b hb).2.1, fun h => by
  have := (I.mem i hi b h).2.2
  have := (I.mem0 b hb).2.2
  omega⟩
 have hri : ∀ i', i' < j → i' ≠ i → c.Rel (D i').M w w' := fun i' hi' hne => eff.rel K I.hB hsh' fun b hb => ⟨(I.mem i' hi' b hb).1, (I.mem i' hi' b hb).2.1, disj i' b hi' hne hb⟩
 have hopw : ∀ {x : WS}, tag.opn = true → ∃ s r tm, w'.heap[c.A.Ch]? = some (.chan 0 #[] false s r tm) := fun ho => by
  obtain ⟨s, r, tm, h⟩ := I.ch
  rw [ho] at h
  exact ⟨s, r, tm, hch.trans h⟩
 have hps : ∀ r, tag = .psend r → ∃ s q tm, w'.heap[c.A.Ch]? = some (.chan 0 #[] false s q tm) := fun r e => hopw (x := .take) (by rw [e]; rfl)
 obtain ⟨tag', τ', hms', htag, hwk⟩ := I.ms.wokenBy K hnd hr0 g g' hps
 have htag' : tag' = tag ∨ (tag = .blk ∧ tag' = .w3) := htag.imp (·.1) id
 have hrun := runT_crowd_go (P := c.P) (sl := sl) (i := i + 1) hg (by simpa using hgo)
 have hgrow := H.grow_le (i + 1) (n := w'.heap.size) (by rw [I.hsize]; exact eff.size)
 have hopn : tag'.opn = tag.opn := by rcases htag' with rfl | ⟨rfl, rfl⟩ <;> rfl
 have hstar : tag'.started c.N = tag.started c.N := by rcases htag' with rfl | ⟨rfl, rfl⟩ <;> rfl
 have hnx : tag'.nx c.m = tag.nx c.m := by rcases htag' with rfl | ⟨rfl, rfl⟩ <;> rfl
 have hown : ∀ b, w.heap.size ≤ b → (H.grow w'.heap.size (i + 1)).own b = i + 1 := fun b hb => by simp only [Cn.grow]; rw [I.hsize, if_neg (by omega)]
 have hownO : ∀ b, b < w.heap.size → (H.grow w'.heap.size (i + 1)).own b = H.own b := fun b hb => by simp only [Cn.grow]; rw [I.hsize, if_pos hb]
 refine ⟨_, _, c.mu j (upd D i d') tag' τ', hrun, ?_, _, w', sl, j, upd D i d', tag', M0, τ', d0, Go.Conc.woken c.P g g' w' a, st', sm', H.grow w'.heap.size (i + 1), rfl, ?_, rfl⟩
 ·have e1 := sumTo_upd D d' (fun d => d.st.wt) hi
  have e2 : Vc j (upd (fun a => (D a).wd) i d'.wd) + cnt (D i).wd = Vc j (fun a => (D a).wd) + cnt d'.wd := Vc_upd (fun a => (D a).wd) d'.wd hi
  have hphi : tag'.phi c.N c.m (Vc j fun a => (D a).wd) = tag.phi c.N c.m (Vc j fun a => (D a).wd) := by rcases htag' with rfl | ⟨rfl, rfl⟩ <;> rfl
  unfold mu
  rw [G8]
  rcases hlt with ⟨h1, h2⟩ | ⟨h1, h2, h3⟩
  ·refine ET ?_
   have := MT.phi_mono c.N c.m (v' := Vc j (upd (fun a => (D a).wd) i d'.wd)) (v := Vc j fun a => (D a).wd) (by omega) tag'
   omega
  ·refine Xp ?_ ⟨i, by have := I.jN; omega, ?_, fun x hx => by dsimp only; rw [upd_ne D _ hx]⟩
   ·have : Vc j (upd (fun a => (D a).wd) i d'.wd) = Vc j fun a => (D a).wd := by omega
    rw [this, hphi]
    omega
   ·dsimp only; rw [upd_same]; exact h3
 ·have hjN := I.jN
  refine ⟨by simp [I.size], by rw [get_map_set _ _ _ _ (by omega), I.ha]; rfl, hms', by rw [hstar]; exact I.jj, ?_, by rw [hnx]; exact I.nx, fun i' hi' => ?_, fun i' hi' => ?_, fun ho i' hz hi' => ?_, fun ho i' hi' => ?_, ?_, hwg', ?_, hcsh, hti, rfl, Nat.le_trans I.hB eff.size, fun i' hi' b hb => ?_, fun b hb => ?_,
   by rw [Deaf_other t (by omega) _ g_of_ofEvents, I.deaf0], fun i' hi' => ?_, fun g0 hg0 => by rw [Deaf_other t (by omega) _ g_of_ofEvents, I.above g0 hg0], fun i' hz hi' hn => ?_, fun k hkn => ?_, fun i' hi' k hb => ?_, I.rw0.trans (eff.rel K I.hB hsh' fun b hb => hb.elim), fun e => ?_⟩
  ·rcases htag' with rfl | ⟨rfl, rfl⟩
   ·exact I.fits
   ·trivial
  ·by_cases e : i' = i
   ·subst e
    exact ⟨g', get_map_set_same _ _ _ (by rw [I.size]; omega), by rw [upd_same]; exact hs'⟩
   ·obtain ⟨x, hx, hsx⟩ := I.wk i' hi'
    refine ⟨x, ?_, by rw [upd_ne D _ e]; exact hsx.rely (hri i' hi' e)⟩
    rw [get_map_set _ _ _ _ (by omega), hx, Option.map_some, hsx.woken g g' fun hp => ?_]
    cases ho : tag.opn with
    | true => exact hopw (x := .take) ho
    | false => exact absurd hp (I.nopark (.inl ho) i' hi')
  ·by_cases e : i' = i
   ·subst e; rw [upd_same]; exact hold_ hi'
   ·rw [upd_ne D _ e]; exact I.old i' hi'
  ·rw [hopn] at ho
   by_cases e : i' = i
   ·subst e; rw [upd_same]; exact hopen ho hz
   ·rw [upd_ne D _ e]; exact I.opn ho i' hz hi'
  ·by_cases e : i' = i
   ·subst e; rw [upd_same]; exact hpark
   ·rw [upd_ne D _ e]
    refine I.nopark ?_ i' hi'
    rcases ho with ho | ⟨r, ho⟩
    ·exact .inl (hopn ▸ ho)
    ·rcases htag' with rfl | ⟨_, rfl⟩
     ·exact .inr ⟨r, ho⟩
     ·cases ho
  ·obtain ⟨s, r, tm, h⟩ := I.ch
   rw [hopn]
   exact ⟨s, r, tm, hch.trans h⟩
  ·rw [G8]; exact hmode tag' htag' hwk
  ·by_cases e : i' = i
   ·subst e
    rw [upd_same] at hb
    rcases hM b hb with h | ⟨h1, h2⟩
    ·have := I.mem i' hi' b h
     exact ⟨this.1, Nat.lt_of_lt_of_le this.2.1 eff.size, (hownO b this.2.1).trans this.2.2⟩
    ·exact ⟨Nat.le_trans I.hB h1, h2, hown b h1⟩
   ·rw [upd_ne D _ e] at hb
    have := I.mem i' hi' b hb
    exact ⟨this.1, Nat.lt_of_lt_of_le this.2.1 eff.size, (hownO b this.2.1).trans this.2.2⟩
  ·have := I.mem0 b hb
   exact ⟨this.1, Nat.lt_of_lt_of_le this.2.1 eff.size, (hownO b this.2.1).trans this.2.2⟩
  ·by_cases e : i' = i
   ·subst e; rw [Deaf_own, I.deafW i' hi', upd_same]; exact hdeaf
   ·rw [Deaf_other t (by omega) _ g_of_ofEvents, I.deafW i' hi', upd_ne D _ e]
  ·by_cases e : i' = i
   ·subst e; rw [upd_same] at hn; exact hrel hz hn
   ·rw [upd_ne D _ e] at hn
    obtain ⟨r, hr⟩ := I.rel i' hz hi' hn
    exact ⟨r, hr.other fun op hop => by rw [g_of_ofEvents op hop]; omega⟩
  ·have hkn' : k < H.nx := hkn
   have mine : (D i).st = .busy k → (∃ i', i' < j ∧ (upd D i d' i').st = .busy k ∧ (H.grow w'.heap.size (i + 1)).hold k = i' + 1) ∨ (∃ Dk : Nat → Prop, c.Res k Dk w' ∧ ∀ b, Dk b → c.A.B0 ≤ b ∧ b < w'.heap.size ∧ ¬ M0 b ∧ ∀ i', i' < j → ¬ (upd D i d' i').M b) := by
    intro hb
    rcases hk k hb with h | ⟨h1, h2⟩
    ·exact .inl ⟨i, hi, by rw [upd_same]; exact h, (I.busy i hi k hb).2⟩
    ·refine .inr ⟨(D i).M, h1, fun b hb => ?_⟩
     have hm := I.mem i hi b hb
     refine ⟨hm.1, Nat.lt_of_lt_of_le hm.2.1 eff.size, fun h => by have := (I.mem0 b h).2.2; omega, fun i' hi' h => ?_⟩
     by_cases e : i' = i
     ·subst e; rw [upd_same, h2] at h; exact h
     ·rw [upd_ne D _ e] at h
      exact disj i' b hi' e h hb
   by_cases hbk : (D i).st = .busy k
   ·exact mine hbk
   ·rcases I.keys k hkn' with ⟨i0, hi0, hb0, hh0⟩ | ⟨Dk, hres, hDk⟩
    ·have e : i0 ≠ i := fun e => hbk (e ▸ hb0)
     exact .inl ⟨i0, hi0, by rw [upd_ne D _ e]; exact hb0, hh0⟩
    ·refine .inr ⟨Dk, K.res k Dk w w' (fun b hb => ?_) (fun a ha => hcell k a ha hbk) hres, fun b hb => ?_⟩
     ·obtain ⟨h1, h2, _, h4⟩ := hDk b hb
      exact eff.keep b h2 (.inr ⟨h1, h4 i hi⟩)
     ·obtain ⟨h1, h2, h3, h4⟩ := hDk b hb
      refine ⟨h1, Nat.lt_of_lt_of_le h2 eff.size, h3, fun i' hi' h => ?_⟩
      by_cases e : i' = i
      ·subst e
       rw [upd_same] at h
       rcases hM b h with h | h
       ·exact h4 i' hi' h
       ·omega
      ·rw [upd_ne D _ e] at h; exact h4 i' hi' h
  ·by_cases e : i' = i
   ·subst e; rw [upd_same] at hb; exact I.busy i' hi' k (hk' k hb)
   ·rw [upd_ne D _ e] at hb; exact I.busy i' hi' k hb
  ·exfalso
   rcases htag' with rfl | ⟨_, rfl⟩
   ·exact hnd e
   ·cases e
end
end Cfg
end Go.Proofs.YtkkmokodaejheaaDoor
namespace Go.Proofs.YtkkmokodaejheaaDoor
open Go Go.Conc
open Go.ConcR (stA smA rd wr KK WgAt Bk g_of_ofEvents)
open Go.ConcN (upd upd_same upd_ne sumTo sumTo_upd CTag WD Vc OpenSt AllQuit isOpen isFin isW3 cnt Vc_upd get_map_set get_map_set_same)
set_option linter.unusedVariables false
namespace Cfg
variable {c : Cfg}
variable {w0 w w' : World} {gs : Array Goroutine} {t : Trace} {j : Nat} {D : Nat → GD} {tag tag' : MT} {M0 M0' : Nat → Prop} {τ0 τ0' : Tr} {d0 : Nat} {a a' : Goroutine} {st sm st' sm' : Int} {H : Cn} {sl : Option (Nat × Nat)} {es : Array Event}
theorem K5 (K : c.Ok) (I : c.BO w0 gs w t j D tag M0 τ0 d0 a st sm H) (hgo : stepG c.P true a w = .go a' w' es) (eff : c.Eff M0 w w')
  (hch : ∃ s r tm, w'.heap[c.A.Ch]? = some (.chan 0 #[] (!tag'.opn) s r tm)) (hcsh : c.CSh w') (hwg' : WgAt c.ty c.A.Wg w' st' sm') (hms : c.Dc tag' M0' τ0' (deafBehind d0 es) a' w')
  (hti : TI c.A (H.grow w'.heap.size 0) j (t ++ MemOp.ofEvents 0 a.frame.fn a.frame.place es)) (hM : ∀ b, M0' b → M0 b ∨ (w.heap.size ≤ b ∧ b < w'.heap.size))
  (hmode : Go.ConcN.Mode j (fun a => (D a).wd) tag'.ct st' sm') (hst : tag'.started c.N = j) (hnx : tag'.nx c.m = H.nx) (hfit : tag'.fits c.N c.A.z0 c.m) (hopen : tag'.opn = tag.opn) (hps : ∀ r, tag' ≠ .psend r)
  (hcell : ∀ k a, c.A.Mine k a → w'.cell? a = w.cell? a)
  (hacq : tag' = .done → ∃ q, (t ++ MemOp.ofEvents 0 a.frame.fn a.frame.place es).act? q = some (.mark (.acquire (stA c.A.Wg))) ∧ (t ++ MemOp.ofEvents 0 a.frame.fn a.frame.place es).g? q = some 0 ∧ (t ++ MemOp.ofEvents 0 a.frame.fn a.frame.place es).heard q ∧
   ∀ g, c.A.z0 < g → g ≤ j → ∃ r, JF c.A (t ++ MemOp.ofEvents 0 a.frame.fn a.frame.place es) g r ∧ r < q)
  (hlt : tag'.phi c.N c.m (Vc j fun a => (D a).wd) < tag.phi c.N c.m (Vc j fun a => (D a).wd) ∨ (tag'.phi c.N c.m (Vc j fun a => (D a).wd) = tag.phi c.N c.m (Vc j fun a => (D a).wd) ∧ Tr.lt τ0' τ0)) :
  ∃ m1 ops μ', runT c.P (crowd gs w sl) 0 = (.next m1, ops) ∧ Ka c.N μ' (c.mu j D tag τ0) ∧ c.Kb w0 μ' m1 (t ++ ops) := by
 have hsh' : c.Sh w' := ⟨⟨_, _, hwg'⟩, let ⟨s, r, tm, h⟩ := hch; ⟨_, s, r, tm, h⟩, hcsh⟩
 have hri : ∀ i, i < j → c.Rel (D i).M w w' := fun i hi => eff.rel K I.hB hsh' fun b hb => ⟨(I.mem i hi b hb).1, (I.mem i hi b hb).2.1, fun h => by
  have := (I.mem i hi b hb).2.2
  have := (I.mem0 b h).2.2
  omega⟩
 have hrun := runT_crowd_go (P := c.P) (sl := sl) (i := 0) I.ha (by simpa using hgo)
 have hown : ∀ b, w.heap.size ≤ b → (H.grow w'.heap.size 0).own b = 0 := fun b hb => by simp only [Cn.grow]; rw [I.hsize, if_neg (by omega)]
 have hownO : ∀ b, b < w.heap.size → (H.grow w'.heap.size 0).own b = H.own b := fun b hb => by simp only [Cn.grow]; rw [I.hsize, if_pos hb]
 have hjN := I.jN
 refine ⟨_, _, c.mu j D tag' τ0', hrun, ?_, _, w', sl, j, D, tag', M0', τ0', deafBehind d0 es, a', st', sm', H.grow w'.heap.size 0, rfl, ?_, rfl⟩
 ·unfold mu
  rcases hlt with h | ⟨h1, h2⟩
  ·exact ET (by omega)
  ·exact Xq (by omega) rfl h2
 ·refine ⟨by simp [I.size], get_map_set_same _ _ _ (by rw [I.size]; omega), hms, hst, hfit, hnx.symm, fun i hi => ?_, I.old, fun ho => I.opn (hopen ▸ ho), fun ho i hi => ?_, hch, hwg', hmode, hcsh, hti, rfl, Nat.le_trans I.hB eff.size, fun i hi b hb => ?_, fun b hb => ?_,
   by rw [Deaf_own, I.deaf0], fun i hi => by rw [Deaf_other t (by omega) _ g_of_ofEvents, I.deafW i hi], fun g0 hg0 => by rw [Deaf_other t (by omega) _ g_of_ofEvents, I.above g0 hg0], fun i hz hi hn => ?_, fun k hkn => ?_, fun i hi k hb => I.busy i hi k hb, I.rw0.trans (eff.rel K I.hB hsh' fun b hb => hb.elim), hacq⟩
  ·obtain ⟨x, hx, hsx⟩ := I.wk i hi
   refine ⟨x, ?_, hsx.rely (hri i hi)⟩
   rw [get_map_set _ _ _ _ (by omega), hx, Option.map_some, hsx.woken a a' fun hp => ?_]
   cases ho : tag'.opn with
   | true => obtain ⟨s, r, tm, h⟩ := hch; rw [ho] at h; exact ⟨s, r, tm, h⟩
   | false => exact absurd hp (I.nopark (.inl (hopen ▸ ho)) i hi)
  ·refine I.nopark (.inl ?_) i hi
   rcases ho with ho | ⟨r, ho⟩
   ·exact hopen ▸ ho
   ·exact absurd ho (hps r)
  ·have := I.mem i hi b hb
   exact ⟨this.1, Nat.lt_of_lt_of_le this.2.1 eff.size, (hownO b this.2.1).trans this.2.2⟩
  ·rcases hM b hb with h | ⟨h1, h2⟩
   ·have := I.mem0 b h
    exact ⟨this.1, Nat.lt_of_lt_of_le this.2.1 eff.size, (hownO b this.2.1).trans this.2.2⟩
   ·exact ⟨Nat.le_trans I.hB h1, h2, hown b h1⟩
  ·obtain ⟨r, hr⟩ := I.rel i hz hi hn
   exact ⟨r, hr.other fun op hop => by rw [g_of_ofEvents op hop]; omega⟩
  ·rcases I.keys k hkn with h | ⟨Dk, hres, hDk⟩
   ·exact .inl h
   ·refine .inr ⟨Dk, K.res k Dk w w' (fun b hb => ?_) (fun a ha => hcell k a ha) hres, fun b hb => ?_⟩
    ·obtain ⟨h1, h2, h3, _⟩ := hDk b hb
     exact eff.keep b h2 (.inr ⟨h1, h3⟩)
    ·obtain ⟨h1, h2, h3, h4⟩ := hDk b hb
     exact ⟨h1, Nat.lt_of_lt_of_le h2 eff.size, fun h => (hM b h).elim h3 fun h => by omega, h4⟩
theorem cell_of {w w1 : World} {a : Addr} (e : w1.heap[a.block]? = w.heap[a.block]?) : w1.cell? a = w.cell? a := by simp [World.cell?, e]
theorem EU (K : c.Ok0) (w : World) (p : Addr) (v : Value) (hp : p.block = c.A.Wg) (b : Nat) (hb : b ≠ c.A.Wg) : (w.setCell p v).heap[b]? = w.heap[b]? := by
 simp only [World.setCell, Array.getElem?_modify]
 rw [if_neg (by rw [hp]; exact fun e => hb e.symm)]
theorem Zv {A : GQ} {H : Cn} {g : Nat} {e : Event} {x : Touch} (h : Bk A.Wg e) (hx : (MemAct.ofEvent e).touch? = some x) : Cls A H g x := by
 rcases h with h1 | h1 | ⟨ad, wr, rfl, ha⟩
 ·rw [Go.ConcR.ofEvent_loc_mark h1] at hx; cases hx
 ·rw [Go.ConcR.ofEvent_loc_mark h1] at hx; cases hx
 ·simp only [Go.ConcR.ofEvent_cell, MemAct.touch?, Option.some.injEq] at hx
  subst hx
  exact .wg ad rfl ha (by simp) (by simp)
theorem Y8 {A : GQ} {B : Nat} {e : Event} (h : Bk A.Wg e) (hB : A.Wg < B) : (MemAct.ofEvent e).low B := by
 rcases h with h1 | h1 | ⟨ad, wr, rfl, ha⟩
 ·rw [Go.ConcR.ofEvent_loc_mark h1]; trivial
 ·rw [Go.ConcR.ofEvent_loc_mark h1]; trivial
 ·rw [Go.ConcR.ofEvent_cell]
  show ad.block < B
  omega
theorem OZ {A : GQ} {e : Event} (h : Bk A.Wg e) : MemAct.ofEvent e ≠ .mark (.release (stA A.Wg)) := by
 rcases h with h1 | h1 | ⟨ad, wr, rfl, ha⟩
 ·rw [Go.ConcR.ofEvent_loc_mark h1]; simp
 ·rw [Go.ConcR.ofEvent_loc_mark h1]; simp
 ·rw [Go.ConcR.ofEvent_cell]; simp
theorem Rq {A : GQ} {e : Event} {x : Touch} (h : Bk A.Wg e) (hx : (MemAct.ofEvent e).touch? = some x) : (∃ ad, x.loc = .cell ad ∧ ad.block = A.Wg) ∧ x.kind = .atomic := by
 rcases h with h1 | h1 | ⟨ad, wr, rfl, ha⟩
 ·rw [Go.ConcR.ofEvent_loc_mark h1] at hx; cases hx
 ·rw [Go.ConcR.ofEvent_loc_mark h1] at hx; cases hx
 ·simp only [Go.ConcR.ofEvent_cell, MemAct.touch?, Option.some.injEq] at hx
  subst hx
  exact ⟨⟨ad, rfl, ha⟩, rfl⟩
theorem TI.book (K : c.Ok) {H H' : Cn} {g : Nat} {fn : FuncId} {pos : String} (h : TI c.A H j t) (hg : g = 0 ∨ (c.A.z0 < g ∧ g ≤ j)) (hle : H.Le H') (hB : c.A.B0 ≤ H'.size) (hbk : ∀ e ∈ es, Bk c.A.Wg e) : TI c.A H' j (t ++ MemOp.ofEvents g fn pos es) :=
 h.app K.area hg hle fun op hop => by
  rw [ofEvents_eq] at hop
  obtain ⟨e, he, rfl⟩ := Array.mem_map.1 hop
  exact ⟨rfl, fun x hx => Zv (hbk e he) hx, Y8 (hbk e he) (Nat.lt_of_lt_of_le K.area.wB hB), OZ (hbk e he)⟩
theorem TI.own (K : c.Ok) {M : Nat → Prop} {g n n' : Nat} {fn : FuncId} {pos : String} (h : TI c.A H j t) (hg : g = 0 ∨ (c.A.z0 < g ∧ g ≤ j)) (hH : H.size = n) (hn : n ≤ n') (hB : c.A.B0 ≤ n)
  (hM : ∀ b, M b → c.A.B0 ≤ b ∧ b < n ∧ H.own b = g) (hev : ∀ e ∈ es, BZ (grown M n n') c.A.R e ∨ (g = 0 ∧ c.Said e)) : TI c.A (H.grow n' g) j (t ++ MemOp.ofEvents g fn pos es) := by
 refine h.app K.area hg (H.grow_le g (by omega)) fun op hop => ?_
 rw [ofEvents_eq] at hop
 obtain ⟨e, he, rfl⟩ := Array.mem_map.1 hop
 have ho0 := hev e he
 have hgr : ∀ b, grown M n n' b → c.A.B0 ≤ b ∧ b < n' ∧ (H.grow n' g).own b = g := by
  intro b hb
  rcases hb with hb | ⟨h1, h2⟩
  ·obtain ⟨k1, k2, k3⟩ := hM b hb
   exact ⟨k1, by omega, by simp only [Cn.grow]; rw [if_pos (by omega)]; exact k3⟩
  ·exact ⟨by omega, h2, by simp only [Cn.grow]; rw [if_neg (by omega)]⟩
 rcases ho0 with ho | ⟨rfl, ad, had, hsay⟩
 rotate_left
 ·have hlow : ad.block < n' := by have := K.area.wB; omega
  rcases hsay with rfl | rfl
  ·refine ⟨rfl, fun x hx => ?_, hlow, by simp [MemAct.ofEvent]⟩
   have : x = ⟨.cell ad, false, .said⟩ := by simpa [MemAct.ofEvent, MemAct.touch?] using hx.symm
   subst this
   exact .wg ad rfl had (by simp) (fun _ => rfl)
  ·refine ⟨rfl, fun x hx => ?_, hlow, by simp [MemAct.ofEvent]⟩
   have : x = ⟨.cell ad, true, .said⟩ := by simpa [MemAct.ofEvent, MemAct.touch?] using hx.symm
   subst this
   exact .wg ad rfl had (by simp) (fun _ => rfl)
 obtain ⟨loc, wr, sy⟩ := e
 unfold BZ at ho
 cases loc with
 | cell ad =>
  simp only at ho
  refine ⟨rfl, fun x hx => ?_, ?_, by simp [MemAct.ofEvent]⟩
  ·have : x = ⟨.cell ad, wr, if sy then .atomic else .plain⟩ := by simpa [MemAct.ofEvent, MemAct.touch?] using hx.symm
   subst this
   rcases ho with ho | ⟨ho, hw⟩
   ·obtain ⟨k1, k2, k3⟩ := hgr _ ho
    exact .own ad.block (.inl ⟨ad, rfl, rfl⟩) k1 k2 k3
   ·exact .rd ad rfl ho hw
  ·show ad.block < n'
   rcases ho with ho | ⟨ho, _⟩
   ·exact (hgr _ ho).2.1
   ·have := K.area.rB _ ho; omega
 | obj r =>
  simp only at ho
  obtain ⟨k1, k2, k3⟩ := hgr _ ho
  by_cases hc : wr = true ∧ sy = true
  ·obtain ⟨rfl, rfl⟩ := hc
   exact ⟨rfl, fun x hx => by simp [MemAct.ofEvent, MemAct.touch?] at hx, k2, by simp [MemAct.ofEvent]⟩
  ·have e : MemAct.ofEvent ⟨.obj r, wr, sy⟩ = .access ⟨.obj r, wr, sy⟩ := by cases wr <;> cases sy <;> first | rfl | exact absurd ⟨rfl, rfl⟩ hc
   rw [e]
   refine ⟨rfl, fun x hx => ?_, k2, by simp⟩
   have : x = ⟨.obj r, wr, if sy then .atomic else .plain⟩ := by simpa [MemAct.touch?] using hx.symm
   subst this
   exact .own r (.inr rfl) k1 k2 k3
 | mark m =>
  simp only at ho
  rcases ho with rfl | ⟨f, rfl⟩
  ·exact ⟨rfl, fun x hx => by simp [MemAct.ofEvent, MemAct.touch?] at hx, trivial, by simp [MemAct.ofEvent]⟩
  ·exact ⟨rfl, fun x hx => by simp [MemAct.ofEvent, MemAct.touch?] at hx, trivial, by simp [MemAct.ofEvent]⟩
 | _ => exact ho.elim
theorem Mj {M R : Nat → Prop} {X : Prop} (hev : ∀ e ∈ es, BZ M R e ∨ (X ∧ c.Said e)) (d : Nat) : deafBehind d es = d :=
 deafBehind_still (fun e he => by
  rcases hev e he with ho | ⟨_, a, _, rfl | rfl⟩
  rotate_left
  ·exact ⟨by simp, by simp⟩
  ·exact ⟨by simp, by simp⟩
  unfold BZ at ho
  refine ⟨fun h => ?_, fun h => ?_⟩ <;> rw [h] at ho <;> rcases ho with h | ⟨f, h⟩ <;> cases h) d
end Cfg
end Go.Proofs.YtkkmokodaejheaaDoor
namespace Go.Proofs.YtkkmokodaejheaaDoor
open Go Go.Conc
open Go.ConcR (stA smA rd wr KK WgAt Bk g_of_ofEvents)
open Go.ConcN (upd upd_same upd_ne sumTo sumTo_upd CTag WD Vc OpenSt AllQuit isOpen isFin isW3 cnt Vc_upd get_map_set get_map_set_same pend bk_cell others_uncounted le_sumTo Vc_le)
theorem MT.ct_retag {tag tag' : MT} (h : tag' = tag ∨ (tag = .blk ∧ tag' = .w3)) : tag'.ct = tag.ct ∨ (tag.ct = .blk ∧ tag'.ct = .w3) := by
 rcases h with rfl | ⟨rfl, rfl⟩
 ·exact .inl rfl
 ·exact .inr ⟨rfl, rfl⟩
theorem Dr {α : Type} (f : Nat → α) (i : Nat) : upd f i (f i) = f := by
 funext a
 by_cases e : a = i
 ·subst e; rw [upd_same]
 ·rw [upd_ne f _ e]
namespace Cfg
variable {c : Cfg}
variable {w0 w w' : World} {gs : Array Goroutine} {t : Trace} {j : Nat} {D : Nat → GD} {tag : MT} {M0 : Nat → Prop} {τ0 : Tr} {d0 : Nat} {a : Goroutine} {st sm st' sm' : Int} {H : Cn} {sl : Option (Nat × Nat)} {es : Array Event} {i : Nat} {g g' : Goroutine}
variable (c) in
def BX (w0 : World) (gs : Array Goroutine) (w : World) (sl : Option (Nat × Nat)) (t : Trace) (j : Nat) (D : Nat → GD) (tag : MT) (τ0 : Tr) (i : Nat) : Prop :=
 ∃ m1 ops μ', runT c.P (crowd gs w sl) i = (.next m1, ops) ∧ Ka c.N μ' (c.mu j D tag τ0) ∧ c.Kb w0 μ' m1 (t ++ ops)
theorem BO.grow_same (I : c.BO w0 gs w t j D tag M0 τ0 d0 a st sm H) (g : Nat) {n : Nat} (h : n = w.heap.size) : H.Le (H.grow n g) := H.grow_le g (by rw [I.hsize, h]; exact Nat.le_refl _)
theorem Np (K : c.Ok) (I : c.BO w0 gs w t j D tag M0 τ0 d0 a st sm H) (hnd : tag ≠ .done) (hi : i < j) (hz : c.A.z0 ≤ i) {s : WS} {M : Nat → Prop} {τ τ' : Tr} (hd : D i = ⟨s, M, τ, 0⟩) (hs7 : s.num = 7) (hsp : s ≠ .park) (hg : gs[i + 1]? = some g)
  (hgo : stepG c.P false g w = .go g' w' es) (hsz : Ay M w w') (hev0 : ∀ e ∈ es, BZ (grown M w.heap.size w'.heap.size) c.A.R e ∨ False) (hs' : c.WSit ⟨s, grown M w.heap.size w'.heap.size, τ', 0⟩ g' w') (htr : Tr.lt τ' τ) : c.BX w0 gs w sl t j D tag τ0 (i + 1) := by
 have hev : ∀ e ∈ es, BZ (grown M w.heap.size w'.heap.size) c.A.R e ∨ (i + 1 = 0 ∧ c.Said e) := fun e he => .inl ((hev0 e he).resolve_right id)
 have hM : ∀ b, M b → c.A.B0 ≤ b ∧ b < w.heap.size ∧ H.own b = i + 1 := fun b hb => I.mem i hi b (by rw [hd]; exact hb)
 have hlow : ∀ b, b < c.A.B0 → w'.heap[b]? = w.heap[b]? := fun b hb => hsz.rest b (fun h => by have := (hM b h).1; omega) (Nat.lt_of_lt_of_le hb I.hB)
 have hst : (D i).st = s := by rw [hd]
 refine workerStep K I hnd hi hg hgo (by rw [hd]; exact Eff.own K hsz fun b hb => (hM b hb).1) (hlow _ K.area.cB) (K.csh w w' hsz.size (fun b h _ _ => hlow b h) I.csh) (I.wg.of_block (hlow _ K.area.wB)) hs'
  (TI.own K I.ti (.inr ⟨by omega, by omega⟩) I.hsize hsz.size I.hB hM hev) (by rw [hd]; exact Mj hev 0) (fun _ h => by simp only at h; omega) (fun b hb => ?_) (fun tag' ht _ => ?_) (fun h => by omega) (fun ho _ => by have := I.opn ho i hz hi; rw [hst] at this; exact this) hsp
  (fun k a ha _ => cell_of (hlow _ (K.area.mB k a ha).1)) (fun k hb => .inl (by rw [hst] at hb; exact hb)) (fun k hb => hst.trans hb) (.inr ⟨by rw [hst], by rw [hd]; rfl, by rw [hd]; exact htr⟩)
 ·rw [hd]
  rcases hb with h | h
  ·exact .inl h
  ·exact .inr h
 ·have e : (⟨s, grown M w.heap.size w'.heap.size, τ', 0⟩ : GD).wd = (fun a => (D a).wd) i := by simp [GD.wd, hd]
  rw [e, Dr]
  exact I.mode.retag (MT.ct_retag ht)
theorem Ec (K : c.Ok) (I : c.BO w0 gs w t j D tag M0 τ0 d0 a st sm H) (hnd : tag ≠ .done) (hi : i < j) (hz : c.A.z0 ≤ i) {s s' : WS} {τ τ' : Tr} {dd dd' : Nat} (hd : D i = ⟨s, none_, τ, dd⟩) (h6 : s.num ≤ 6) (h6' : s'.num ≤ 6) (hg : gs[i + 1]? = some g)
  (hgo : stepG c.P false g w = .go g' w' es) (hw : w' = w ∨ ∃ p v, p.block = c.A.Wg ∧ w' = w.setCell p v) (hwg' : WgAt c.ty c.A.Wg w' st' sm') (hbk : ∀ e ∈ es, Bk c.A.Wg e)
  (hdf : ∀ jx e, es[jx]? = some e → (MemAct.ofEvent e).touch? = none ∨ 0 < deafBehind dd (es.extract 0 jx)) (hs' : c.WSit ⟨s', none_, τ', dd'⟩ g' w') (hdd : deafBehind dd es = dd')
  (hmode : ∀ tag', (tag' = tag ∨ (tag = .blk ∧ tag' = .w3)) → (mayWake c.P g = true → g'.status = .running → tag' ≠ .blk) → Go.ConcN.Mode j (upd (fun a => (D a).wd) i ⟨s'.num, 0, 0⟩) tag'.ct st' sm')
  (hlt : (s'.wt < s.wt ∧ cnt ⟨s'.num, 0, 0⟩ ≤ cnt ⟨s.num, 0, 0⟩) ∨ (s' = s ∧ Tr.lt τ' τ)) : c.BX w0 gs w sl t j D tag τ0 (i + 1) := by
 have heff : c.Eff none_ w w' := by
  rcases hw with rfl | ⟨p, v, hp, rfl⟩
  ·exact .refl _ _
  ·exact .setCell K w p v hp
 have hlow : ∀ b, b ≠ c.A.Wg → w'.heap[b]? = w.heap[b]? := by
  rcases hw with rfl | ⟨p, v, hp, rfl⟩
  ·exact fun _ _ => rfl
  ·exact fun b hb => EU K.toOk0 w p v hp b hb
 have hsz : w'.heap.size = w.heap.size := by
  rcases hw with rfl | ⟨p, v, hp, rfl⟩
  ·rfl
  ·simp [World.setCell]
 have hst : (D i).st = s := by rw [hd]
 have nb : ∀ {x : WS} (k : Nat), x.num ≤ 6 → x ≠ .busy k := fun k h e => by subst e; simp [WS.num] at h
 have hdk : Deaf t (i + 1) = dd := by rw [I.deafW i hi, hd]
 refine workerStep K I hnd hi hg hgo (by rw [hd]; exact heff) (hlow _ fun e => K.area.wc e.symm) (K.csh w w' (Nat.le_of_eq hsz.symm) (fun b _ h _ => hlow b h) I.csh) hwg' hs'
  (TI.book K I.ti (.inr ⟨by omega, by omega⟩) (I.grow_same _ hsz) (by simp only [Cn.grow]; rw [hsz]; exact I.hB) hbk) (by rw [hd]; exact hdd) (fun _ _ => ?_) (fun b hb => hb.elim) (fun tag' ht hk => hmode tag' ht hk) (fun h => by omega) (fun ho _ => ?_) (fun e => ?_)
  (fun k a ha _ => cell_of (hlow _ (K.area.mB k a ha).2.1)) (fun k hb => absurd (hst.symm.trans hb) (nb k h6)) (fun k hb => absurd hb (nb k h6')) ?_
 ·obtain ⟨r, hr⟩ := I.rel i hz hi (by rw [hst]; exact h6)
  refine ⟨r, hr.app (hr.rel.book hdk _ _ hbk hdf) fun op hop _ x hx => ?_⟩
  rw [ofEvents_eq] at hop
  obtain ⟨e, he, rfl⟩ := Array.mem_map.1 hop
  exact Rq (hbk e he) hx
 ·have := I.opn ho i hz hi
  rw [hst] at this
  cases s <;> simp [WS.num, WS.loops] at h6 this
 ·simp only at e; subst e; simp [WS.num] at h6'
 ·rcases hlt with ⟨h1, h2⟩ | ⟨rfl, h2⟩
  ·exact .inl ⟨by rw [hst]; exact h1, by rw [hd]; exact h2⟩
  ·exact .inr ⟨by rw [hst], by rw [hd]; rfl, by rw [hd]; exact h2⟩
theorem F5 (K : c.Ok) (I : c.BO w0 gs w t j D tag M0 τ0 d0 a st sm H) (hnd : tag ≠ .done) (hi : i < j) (hz : c.A.z0 ≤ i) {s : WS} {n dd : Nat} (hd : D i = ⟨s, none_, .chain (n + 1), dd⟩) (h6 : s.num ≤ 6) (hg : gs[i + 1]? = some g)
  (hgo : stepG c.P false g w = .go g' w #[]) (hs' : c.WSit ⟨s, none_, .chain n, dd⟩ g' w) : c.BX w0 gs w sl t j D tag τ0 (i + 1) :=
 Ec K I hnd hi hz hd h6 h6 hg hgo (.inl rfl) I.wg (by simp) (by simp) hs' rfl (fun tag' ht _ => by
  have e : (⟨s.num, 0, 0⟩ : WD) = (fun a => (D a).wd) i := by simp [GD.wd, hd]
  rw [e, Dr]
  exact I.mode.retag (MT.ct_retag ht)) (.inr ⟨rfl, ⟨_, w, rfl, rfl⟩⟩)
theorem EL {Stop : Goroutine → World → Prop} {n : Nat} (h : Goes c.P false (c.Rel none_) Go.ConcR.DC0 Stop n g w) :
  Stop g w ∨ ∃ n' g', n = n' + 1 ∧ stepG c.P false g w = .go g' w #[] ∧ Goes c.P false (c.Rel none_) Go.ConcR.DC0 Stop n' g' w := by
 rcases Goes.cases h with hstop | ⟨m', rfl, hstep⟩
 ·exact .inl (hstop w (.refl ..))
 ·obtain ⟨g', w', es, hgo, ⟨rfl, rfl⟩, hg'⟩ := hstep w (.refl ..)
  exact .inr ⟨m', g', rfl, hgo, hg'⟩
theorem Yw (K : c.Ok) (I : c.BO w0 gs w t j D tag M0 τ0 d0 a st sm H) (hnd : tag ≠ .done) (hi : i < j) (hz : c.A.z0 ≤ i) {M : Nat → Prop} {τ : Tr} (hd : D i = ⟨.r0, M, τ, 0⟩) (hg : gs[i + 1]? = some g) (h : c.AtR0 M g w) : c.BX w0 gs w sl t j D tag τ0 (i + 1) := by
 obtain ⟨_, g', hgo, n, hk⟩ := h
 have hst : (D i).st = .r0 := by rw [hd]
 have hdk : Deaf t (i + 1) = 0 := by rw [I.deafW i hi, hd]
 have hwt : (D i).wd = ⟨7, 0, 0⟩ := by rw [hd]; rfl
 have hev1 : ∀ e ∈ #[Go.ConcR.mk (.releaseMerge (stA c.A.Wg))], MemAct.ofEvent e = .mark (.releaseMerge (stA c.A.Wg)) := by intro e he; simp at he; subst he; rfl
 refine workerStep K I hnd hi hg hgo (.refl _ _) rfl I.csh I.wg (d' := ⟨.k1, none_, .chain n, 0⟩) (.k1 hk) (I.ti.app (g := i + 1) K.area (.inr ⟨by omega, by omega⟩) (I.grow_same _ rfl) fun op hop => ?_) (by rw [hd]; rfl) (fun _ _ => ⟨t.size, ?_⟩) (fun b hb => hb.elim)
  (fun tag' ht _ => ?_) (fun h => by omega) (fun ho _ => ?_) (by simp) (fun _ _ _ _ => rfl) (fun k hb => by rw [hst] at hb; cases hb) (fun k hb => by cases hb) (.inl ⟨by rw [hst]; simp [WS.wt], by rw [hwt]; simp [GD.wd, WS.num, cnt]⟩)
 ·rw [ofEvents_eq] at hop
  obtain ⟨e, he, rfl⟩ := Array.mem_map.1 hop
  have := hev1 e he
  refine ⟨rfl, fun x hx => (by have hx' : (MemAct.ofEvent e).touch? = some x := hx; rw [this] at hx'; cases hx'), ?_, (by show MemAct.ofEvent e ≠ _; rw [this]; simp)⟩
  show (MemAct.ofEvent e).low _
  rw [this]
  show c.A.Wg < w.heap.size
  exact Nat.lt_of_lt_of_le K.area.wB I.hB
 ·refine ⟨Go.ConcN.RelBy.new hdk _ _, fun i' a' hi' ha' _ => ?_⟩
  obtain ⟨z, hz', hza⟩ := touch_of ha'
  rcases getElem?_append_cases hz' with ⟨hlt, _⟩ | ⟨_, hu⟩
  ·omega
  ·rw [ofEvents_eq] at hu
   obtain ⟨e, he, rfl⟩ := Array.mem_map.1 hu
   have hza' : (MemAct.ofEvent e).touch? = some a' := hza
   rw [hev1 e he] at hza'
   cases hza'
 ·have := I.mode.counted (i := i) hi (by rw [hwt]; decide) (.inl rfl) 0 0
  exact this.retag (MT.ct_retag ht)
 ·have := I.opn ho i hz hi
  rw [hst] at this
  exact this.elim
theorem Yx (K : c.Ok) (I : c.BO w0 gs w t j D tag M0 τ0 d0 a st sm H) (hnd : tag ≠ .done) (hi : i < j) (hz : c.A.z0 ≤ i) {n : Nat} (hd : D i = ⟨.k1, none_, .chain n, 0⟩) (hg : gs[i + 1]? = some g) (h : Goes c.P false (c.Rel none_) Go.ConcR.DC0 c.AtK1 n g w) : c.BX w0 gs w sl t j D tag τ0 (i + 1) := by
 rcases EL h with hs | ⟨n', g', rfl, hgo, hk⟩
 ·obtain ⟨_, g', hgo, n2, hk⟩ := hs
  refine Ec K I hnd hi hz hd (by decide) (s' := .d1) (by decide) hg hgo (.inl rfl) I.wg (by intro e he; simp at he; subst he; exact .inl rfl)
   (by intro jx e he; exact .inl (by have := Array.mem_of_getElem? he; simp at this; subst this; rfl)) (.d1 hk) rfl (fun tag' ht _ => ?_) (.inl ⟨by decide, by decide⟩)
  have := I.mode.counted (i := i) hi (by simp [GD.wd, hd, WS.num]) (.inr rfl) 0 0
  exact this.retag (MT.ct_retag ht)
 ·exact F5 K I hnd hi hz hd (by decide) hg hgo (.k1 hk)
theorem SV (K : c.Ok) (I : c.BO w0 gs w t j D tag M0 τ0 d0 a st sm H) (hnd : tag ≠ .done) (hi : i < j) {q dd : Nat} (hd : D i = ⟨.quit, none_, .chain q, dd⟩) (hg : gs[i + 1]? = some g) (hrun : g.status = .running) (h : QuitsD c.P q dd g) : c.BX w0 gs w sl t j D tag τ0 (i + 1) := by
 cases q with
 | zero => rw [h.1] at hrun; cases hrun
 | succ q =>
  rcases h with ⟨hf, _⟩ | ⟨_, g', es, hmute, hstep, hq⟩
  ·rw [hf] at hrun; cases hrun
  ·have hbk : ∀ e ∈ es, Bk c.A.Wg e := fun e he => Go.ConcR.bk_of_mute (hmute e he)
   have hst : (D i).st = .quit := by rw [hd]
   have hdk : Deaf t (i + 1) = dd := by rw [I.deafW i hi, hd]
   have hno : ∀ jx e, es[jx]? = some e → (MemAct.ofEvent e).touch? = none ∨ 0 < deafBehind dd (es.extract 0 jx) := fun jx e he => .inl (touch_mute (hmute e (Array.mem_of_getElem? he)))
   refine workerStep K I hnd hi hg (hstep w) (.refl _ _) rfl I.csh I.wg (d' := ⟨.quit, none_, .chain q, deafBehind dd es⟩) (.quit hq) (I.ti.quiet (I.grow_same _ rfl) fun op hop => ?_) (by rw [hd]) (fun hz _ => ?_) (fun b hb => hb.elim)
    (fun tag' ht _ => ?_) (fun _ => rfl) (fun ho hz => ?_) (by simp) (fun _ _ _ _ => rfl) (fun k hb => by rw [hst] at hb; cases hb) (fun k hb => by cases hb) (.inr ⟨by rw [hst], by rw [hd]; rfl, by rw [hd]; exact ⟨_, w, rfl, rfl⟩⟩)
   ·rw [ofEvents_eq] at hop
    obtain ⟨e, he, rfl⟩ := Array.mem_map.1 hop
    exact ⟨by simp only; omega, touch_mute (hmute e he), low_mute (hmute e he) _, OZ (hbk e he)⟩
   ·obtain ⟨r, hr⟩ := I.rel i hz hi (by rw [hst]; decide)
    refine ⟨r, hr.app (hr.rel.book hdk _ _ hbk hno) fun op hop _ x hx => ?_⟩
    rw [ofEvents_eq] at hop
    obtain ⟨e, he, rfl⟩ := Array.mem_map.1 hop
    exact Rq (hbk e he) hx
   ·have e : (⟨.quit, none_, .chain q, deafBehind dd es⟩ : GD).wd = (fun a => (D a).wd) i := by simp [GD.wd, hd]
    rw [e, Dr]
    exact I.mode.retag (MT.ct_retag ht)
   ·have := I.opn ho i hz hi
    rw [hst] at this
    exact this.elim
end Cfg
end Go.Proofs.YtkkmokodaejheaaDoor
namespace Go.Proofs.YtkkmokodaejheaaDoor
open Go Go.Conc
open Go.ConcR (stA smA rd wr KK WgAt Bk g_of_ofEvents)
open Go.ConcN (upd upd_same upd_ne sumTo sumTo_upd CTag WD Vc OpenSt AllQuit isOpen isFin isW3 cnt Vc_upd get_map_set get_map_set_same pend bk_cell others_uncounted le_sumTo Vc_le)
set_option linter.unusedVariables false
namespace Cfg
variable {c : Cfg}
variable {w0 w w' : World} {gs : Array Goroutine} {t : Trace} {j : Nat} {D : Nat → GD} {tag : MT} {M0 : Nat → Prop} {τ0 : Tr} {d0 : Nat} {a : Goroutine} {st sm st' sm' : Int} {H : Cn} {sl : Option (Nat × Nat)} {es : Array Event} {i : Nat} {g g' : Goroutine}
theorem YB (K : c.Ok) (I : c.BO w0 gs w t j D tag M0 τ0 d0 a st sm H) (hnd : tag ≠ .done) (hi : i < j) (hz : c.A.z0 ≤ i) {n : Nat} (hd : D i = ⟨.d1, none_, .chain n, 1⟩) (hg : gs[i + 1]? = some g) (h : Goes c.P false (c.Rel none_) Go.ConcR.DC0 c.AtD1 n g w) : c.BX w0 gs w sl t j D tag τ0 (i + 1) := by
 rcases EL h with hs | ⟨n', g', rfl, hgo, hk⟩
 ·obtain ⟨_, hall⟩ := hs
  obtain ⟨f, hf⟩ : ∃ f : Nat → WD, f = fun a => (D a).wd := ⟨_, rfl⟩
  have hmode := I.mode
  rw [← hf] at hmode
  have hfi : f i = ⟨5, 0, 0⟩ := by rw [hf]; simp [GD.wd, hd, WS.num]
  have hc1 : cnt (f i) = 1 := by rw [hfi]; rfl
  have hV1 : 1 ≤ Vc j f := by have := le_sumTo (f := fun x => cnt (f x)) hi; simp only [Vc]; omega
  have hVj := Vc_le j f
  have hjN := I.jN
  have hN := K.N
  have bk2 : ∀ e ∈ #[rd (stA c.A.Wg), wr (stA c.A.Wg)], Bk c.A.Wg e := by intro e he; simp at he; rcases he with rfl | rfl <;> exact bk_cell _ _ rfl
  have df2 : ∀ jx e, (#[rd (stA c.A.Wg), wr (stA c.A.Wg)] : Array Event)[jx]? = some e → (MemAct.ofEvent e).touch? = none ∨ 0 < deafBehind 1 ((#[rd (stA c.A.Wg), wr (stA c.A.Wg)] : Array Event).extract 0 jx) := by
   intro jx e he
   match jx, he with
   | 0, _ => exact .inr (by simp [deafBehind])
   | 1, _ => exact .inr (by simp [deafBehind, rd])
   | jx + 2, he => simp at he
  have hVu : ∀ s : Nat, s < 5 → Vc j (upd f i ⟨s, 0, 0⟩) + 1 = Vc j f := fun s hs => by
   have := Vc_upd f (⟨s, 0, 0⟩ : WD) hi
   have c0 : cnt (⟨s, 0, 0⟩ : WD) = 0 := by simp only [cnt]; rw [if_neg (by omega)]
   omega
  have opq : OpenSt j f → OpenSt j (upd f i ⟨1, 0, 0⟩) := fun h a ha => by
   by_cases e : a = i
   ·subst e; rw [upd_same]; simp
   ·rw [upd_ne _ _ e]; exact h a ha
  have hp1 : pend tag.ct ≤ 1 := by cases tag <;> simp only [MT.ct, pend] <;> (try split) <;> omega
  have hwg := I.wg
  have hpn : 0 < pend tag.ct → j < c.N := fun hp => by
   have hj := I.jj
   have hfit := I.fits
   cases tag <;> simp only [MT.ct, pend, MT.started, MT.fits] at hp hj hfit <;> omega
  have hret : ∀ tag', (tag' = tag ∨ (tag = .blk ∧ tag' = .w3)) → tag'.ct = tag.ct ∨ (tag.ct = .blk ∧ tag'.ct = .w3) := fun _ => MT.ct_retag
  generalize tag.ct = ct at hmode hp1 hpn hret
  cases hmode with
  | opn h1 h2 h3 =>
   obtain ⟨v, hv⟩ : ∃ v, Vc j f + pend ct = v + 1 := ⟨Vc j f + pend ct - 1, by omega⟩
   rw [hv] at hwg
   have hw1 : WgAt c.ty c.A.Wg w (((v : Nat) + 1) * KK + ((0 : Nat) : Int)) 0 := by simpa using hwg
   have hvb : v < 2147483647 := by
    rcases Nat.lt_or_ge 0 (pend ct) with hp | hp
    ·have := hpn hp
     omega
    ·omega
   obtain ⟨g', hgo, _, hq⟩ := hall v 0 (by omega) hvb hw1
   obtain ⟨q, hq⟩ := hq (by omega)
   have hv' : Vc j (upd f i ⟨1, 0, 0⟩) + pend ct = v := by have := hVu 1 (by omega); omega
   refine Ec K I hnd hi hz hd (by decide) (s' := .quit) (by decide) hg hgo (.inr ⟨_, _, rfl, rfl⟩) (hwg.setSt _) bk2 df2 (.quit hq) rfl (fun tag' ht _ => ?_) (.inl ⟨by decide, by decide⟩)
   rw [← hf]
   have e : ((v : Nat) : Int) * KK + ((0 : Nat) : Int) = ((Vc j (upd f i ⟨1, 0, 0⟩) + pend ct : Nat) : Int) * KK := by rw [hv']; simp
   rw [e]
   exact (Go.ConcN.Mode.opn h1 (opq h2) (fun vs ev => by have := h3 vs ev; have := hVu 1 (by omega); omega)).retag (hret tag' ht)
  | reg h1 h2 h3 =>
   obtain ⟨v, hv⟩ : ∃ v, Vc j f = v + 1 := ⟨Vc j f - 1, by omega⟩
   rw [hv] at hwg
   have hw1 : WgAt c.ty c.A.Wg w (((v : Nat) + 1) * KK + ((1 : Nat) : Int)) 0 := by simpa using hwg
   obtain ⟨g', hgo, hl, hq⟩ := hall v 1 (by omega) (by omega) hw1
   by_cases hv0 : v = 0
   ·subst hv0
    obtain ⟨n2, hk⟩ := hl ⟨rfl, rfl⟩
    refine Ec K I hnd hi hz hd (by decide) (s' := .d2) (by decide) hg hgo (.inr ⟨_, _, rfl, rfl⟩) (hwg.setSt _) bk2 df2 (.d2 hk) rfl (fun tag' ht _ => ?_) (.inl ⟨by decide, by decide⟩)
    rw [← hf]
    have hoth : ∀ a, a < j → a ≠ i → (f a).stage = 1 := fun a ha e => by
     have c0 := others_uncounted hi hv hc1 a ha e
     have := h2 a ha
     simp only [cnt] at c0
     split at c0 <;> omega
    have := Go.ConcN.Mode.last (j := j) (D := upd f i ⟨4, 0, 0⟩) (tag := ct) i h1 hi (by rw [upd_same]; simp) (fun a ha e => by rw [upd_ne _ _ e]; exact hoth a ha e)
    rw [upd_same] at this
    simpa [WS.num] using this.retag (hret tag' ht)
   ·obtain ⟨q, hq⟩ := hq (by omega)
    have hv' : Vc j (upd f i ⟨1, 0, 0⟩) = v := by have := hVu 1 (by omega); omega
    refine Ec K I hnd hi hz hd (by decide) (s' := .quit) (by decide) hg hgo (.inr ⟨_, _, rfl, rfl⟩) (hwg.setSt _) bk2 df2 (.quit hq) rfl (fun tag' ht _ => ?_) (.inl ⟨by decide, by decide⟩)
    rw [← hf]
    have e : ((v : Nat) : Int) * KK + ((1 : Nat) : Int) = ((Vc j (upd f i ⟨1, 0, 0⟩) : Nat) : Int) * KK + 1 := by rw [hv']; simp
    rw [e]
    exact (Go.ConcN.Mode.reg h1 (opq h2) (by omega)).retag (hret tag' ht)
  | last L _ h2 h3 h4 =>
   by_cases e : i = L
   ·subst e; rw [hfi] at h3; simp at h3
   ·have := h4 i hi e; rw [hfi] at this; simp at this
  | sema h2 => have := h2 i hi; rw [hfi] at this; simp at this
  | fin _ h2 => have := h2 i hi; rw [hfi] at this; simp at this
 ·exact F5 K I hnd hi hz hd (by decide) hg hgo (.d1 hk)
theorem MQ {s : Nat} (h1 : isW3 tag.ct) (hi : i < j) (hs : s = 4 ∨ s = 3 ∨ s = 2) {f : Nat → WD} (hoth : ∀ a, a < j → a ≠ i → (f a).stage = 1) {tag' : MT} (ht : tag' = tag ∨ (tag = .blk ∧ tag' = .w3)) {x : Int} (hx : x = if s = 2 then 0 else 1) :
  Go.ConcN.Mode j (upd f i ⟨s, 0, 0⟩) tag'.ct x 0 := by
 have := Go.ConcN.Mode.last (j := j) (D := upd f i ⟨s, 0, 0⟩) (tag := tag.ct) i h1 hi (by rw [upd_same]; exact hs) (fun a ha e => by rw [upd_ne _ _ e]; exact hoth a ha e)
 rw [upd_same] at this
 rw [hx]
 exact this.retag (MT.ct_retag ht)
theorem YA (K : c.Ok) (I : c.BO w0 gs w t j D tag M0 τ0 d0 a st sm H) (hnd : tag ≠ .done) (hi : i < j) (hz : c.A.z0 ≤ i) {n : Nat} (hd : D i = ⟨.d2, none_, .chain n, 1⟩) (hg : gs[i + 1]? = some g) (h : Goes c.P false (c.Rel none_) Go.ConcR.DC0 c.AtD2 n g w) : c.BX w0 gs w sl t j D tag τ0 (i + 1) := by
 rcases EL h with hs | ⟨n', g', rfl, hgo, hk⟩
 ·obtain ⟨_, hx⟩ := hs
  obtain ⟨f, hf⟩ : ∃ f : Nat → WD, f = fun a => (D a).wd := ⟨_, rfl⟩
  have hmode := I.mode
  rw [← hf] at hmode
  have hfi : (f i).stage = 4 := by rw [hf]; simp [GD.wd, hd, WS.num]
  obtain ⟨hW3, hoth, rfl, rfl⟩ := hmode.isLast hi (by omega)
  have hwg := I.wg
  simp only [hfi] at hwg
  obtain ⟨g', hgo, n2, hk⟩ := hx (by simpa using hwg)
  exact Ec K I hnd hi hz hd (by decide) (s' := .d3) (by decide) hg hgo (.inl rfl) hwg (by intro e he; simp at he; subst he; exact bk_cell _ _ rfl)
   (by intro jx e he; match jx, he with | 0, _ => exact .inr (by simp [deafBehind]) | jx + 1, he => simp at he) (.d3 hk) rfl (fun tag' ht _ => by rw [← hf]; exact MQ hW3 hi (.inr (.inl rfl)) hoth ht (by simp)) (.inl ⟨by decide, by decide⟩)
 ·exact F5 K I hnd hi hz hd (by decide) hg hgo (.d2 hk)
theorem Yz (K : c.Ok) (I : c.BO w0 gs w t j D tag M0 τ0 d0 a st sm H) (hnd : tag ≠ .done) (hi : i < j) (hz : c.A.z0 ≤ i) {n : Nat} (hd : D i = ⟨.d3, none_, .chain n, 1⟩) (hg : gs[i + 1]? = some g) (h : Goes c.P false (c.Rel none_) Go.ConcR.DC0 c.AtD3 n g w) : c.BX w0 gs w sl t j D tag τ0 (i + 1) := by
 rcases EL h with hs | ⟨n', g', rfl, hgo, hk⟩
 ·obtain ⟨_, hx⟩ := hs
  obtain ⟨f, hf⟩ : ∃ f : Nat → WD, f = fun a => (D a).wd := ⟨_, rfl⟩
  have hmode := I.mode
  rw [← hf] at hmode
  have hfi : (f i).stage = 3 := by rw [hf]; simp [GD.wd, hd, WS.num]
  obtain ⟨hW3, hoth, rfl, rfl⟩ := hmode.isLast hi (by omega)
  have hwg := I.wg
  simp only [hfi] at hwg
  obtain ⟨g', hgo, n2, hk⟩ := hx (by simpa using hwg)
  exact Ec K I hnd hi hz hd (by decide) (s' := .d4) (by decide) hg hgo (.inr ⟨_, _, rfl, rfl⟩) (hwg.setSt 0) (by intro e he; simp at he; subst he; exact bk_cell _ _ rfl)
   (by intro jx e he; match jx, he with | 0, _ => exact .inr (by simp [deafBehind]) | jx + 1, he => simp at he) (.d4 hk) rfl (fun tag' ht _ => by rw [← hf]; exact MQ hW3 hi (.inr (.inr rfl)) hoth ht (by simp)) (.inl ⟨by decide, by decide⟩)
 ·exact F5 K I hnd hi hz hd (by decide) hg hgo (.d3 hk)
theorem Yy (K : c.Ok) (I : c.BO w0 gs w t j D tag M0 τ0 d0 a st sm H) (hnd : tag ≠ .done) (hi : i < j) (hz : c.A.z0 ≤ i) {n : Nat} (hd : D i = ⟨.d4, none_, .chain n, 1⟩) (hg : gs[i + 1]? = some g) (h : Goes c.P false (c.Rel none_) Go.ConcR.DC0 c.AtD4 n g w) : c.BX w0 gs w sl t j D tag τ0 (i + 1) := by
 rcases EL h with hs | ⟨n', g', rfl, hgo, hk⟩
 ·obtain ⟨_, hmw, hx⟩ := hs
  obtain ⟨f, hf⟩ : ∃ f : Nat → WD, f = fun a => (D a).wd := ⟨_, rfl⟩
  have hmode := I.mode
  rw [← hf] at hmode
  have hfi : (f i).stage = 2 := by rw [hf]; simp [GD.wd, hd, WS.num]
  obtain ⟨hW3, hoth, rfl, rfl⟩ := hmode.isLast hi (by omega)
  have hwg := I.wg
  simp only [hfi] at hwg
  obtain ⟨g', hgo, q, hq⟩ := hx (by simpa using hwg)
  have hrun' : g'.status = .running := by
   cases q with
   | zero => exact absurd hq.2 (by decide)
   | succ q => exact hq.elim (fun x => absurd x.2 (by decide)) (fun x => x.1)
  refine Ec K I hnd hi hz hd (by decide) (s' := .quit) (by decide) hg hgo (.inr ⟨_, _, rfl, rfl⟩) (hwg.setSm 1) Go.ConcN.bk_sem ?_ (.quit hq) (by simp [deafBehind, semEvents]) (fun tag' ht hw => ?_) (.inl ⟨by decide, by decide⟩)
  ·intro jx e he
   match jx, he with
   | 0, he => simp [semEvents] at he; subst he; exact .inl rfl
   | 1, _ => exact .inr (by simp [deafBehind, semEvents])
   | 2, _ => exact .inr (by simp [deafBehind, semEvents])
   | 3, he => simp [semEvents] at he; subst he; exact .inl rfl
   | jx + 4, he => simp [semEvents] at he
  ·have hnb := hw hmw hrun'
   have e3 : tag' = .w3 := by
    rcases ht with rfl | ⟨_, rfl⟩
    ·cases tag' <;> first | rfl | exact hW3.elim | exact absurd rfl hnb
    ·rfl
   subst e3
   simp only [if_true]
   rw [← hf]
   exact .sema fun a ha => by
    by_cases e : a = i
    ·subst e; rw [upd_same]; rfl
    ·rw [upd_ne _ _ e]; exact hoth a ha e
 ·exact F5 K I hnd hi hz hd (by decide) hg hgo (.d4 hk)
theorem RF (K : c.Ok) (I : c.BO w0 gs w t j D tag M0 τ0 d0 a st sm H) (hnd : tag ≠ .done) (hi : i < j) (hz : c.A.z0 ≤ i) {k : Nat} {M : Nat → Prop} {τ : Tr} (hd : D i = ⟨.busy k, M, τ, 0⟩) (hg : gs[i + 1]? = some g) (h : c.EA k M g w) : c.BX w0 gs w sl t j D tag τ0 (i + 1) := by
 obtain ⟨_, g', w', es, hgo, hl, hev, hcsh, hres, hhead⟩ := h
 have hst : (D i).st = .busy k := by rw [hd]
 have hMd : (D i).M = M := by rw [hd]
 have hfar : ∀ b, (b = c.A.Wg ∨ b = c.A.Ch ∨ c.A.R b ∨ c.A.B0 ≤ b) → w'.heap[b]? = w.heap[b]? := fun b hb => hl.far b fun a ha e => by
  subst e
  have := K.area.mB k a ha
  rcases hb with h | h | h | h
  ·exact this.2.1 h
  ·exact this.2.2 h
  ·exact K.area.rM k a ha h
  ·omega
 have hsh' : c.Sh w' := ⟨⟨_, _, I.wg.of_block (hfar _ (.inl rfl))⟩, let ⟨s, r, tm, h⟩ := I.ch; ⟨_, s, r, tm, (hfar _ (.inr (.inl rfl))).trans h⟩, hcsh⟩
 obtain ⟨τ', hτ⟩ := (Own.mono (K.head _ _ hsh' hhead) fun M g w h => (.inl h : c.E8 M g w)).tree
 have hst2 : ∀ e ∈ es, e.loc ≠ .mark .disable ∧ e.loc ≠ .mark .enable := fun e he => by
  obtain ⟨ad, hloc, _⟩ := hev e he
  rw [hloc]
  exact ⟨by simp, by simp⟩
 refine workerStep K I hnd hi hg hgo ⟨Nat.le_of_eq hl.size.symm, fun b _ hb => hfar b (hb.elim (fun h => .inr (.inr (.inl h))) fun h => .inr (.inr (.inr h.1))), hl.tape, hl.os, hl.out⟩ (hfar _ (.inr (.inl rfl))) hcsh (I.wg.of_block (hfar _ (.inl rfl)))
  (d' := ⟨.take, none_, τ', 0⟩) (.take hτ) (I.ti.app (g := i + 1) K.area (.inr ⟨by omega, by omega⟩) (I.grow_same _ hl.size) fun op hop => ?_) (by rw [hd]; exact deafBehind_still hst2 0) (fun _ h => by simp [WS.num] at h) (fun b hb => hb.elim) (fun tag' ht _ => ?_) (fun h => by omega) (fun _ _ => trivial) (by simp)
  (fun k' a ha hne => hl.cells a fun hm => hne (by rw [hst, K.area.mU _ _ _ hm ha])) (fun k' hb => .inr ?_) (fun k' hb => by cases hb) (.inl ⟨by rw [hst]; simp [WS.wt], by rw [hd]; simp [GD.wd, WS.num, cnt]⟩)
 ·rw [ofEvents_eq] at hop
  obtain ⟨e, he, rfl⟩ := Array.mem_map.1 hop
  obtain ⟨ad, hloc, hm⟩ := hev e he
  obtain ⟨loc, wr, sy⟩ := e
  simp only at hloc
  subst hloc
  have e1 : MemAct.ofEvent ⟨.cell ad, wr, sy⟩ = .access ⟨.cell ad, wr, sy⟩ := by cases wr <;> cases sy <;> rfl
  refine ⟨rfl, fun x hx => ?_, ?_, (by show MemAct.ofEvent ⟨.cell ad, wr, sy⟩ ≠ _; rw [e1]; simp)⟩
  ·have hx' : (MemAct.ofEvent ⟨.cell ad, wr, sy⟩).touch? = some x := hx
   rw [e1] at hx'
   simp only [MemAct.touch?, Option.some.injEq] at hx'
   subst hx'
   obtain ⟨h1, h2⟩ := I.busy i hi k hst
   exact .key k ad rfl hm h1 h2
  ·show (MemAct.ofEvent ⟨.cell ad, wr, sy⟩).low _
   rw [e1]
   show ad.block < w'.heap.size
   have := (K.area.mB k ad hm).1
   have := I.hB
   have := hl.size
   omega
 ·have e : (⟨.take, none_, τ', 0⟩ : GD).wd = (fun a => (D a).wd) i := by simp [GD.wd, hd, WS.num]
  rw [e, Dr]
  exact I.mode.retag (MT.ct_retag ht)
 ·rw [hst] at hb
  cases hb
  exact ⟨hMd ▸ hres, rfl⟩
end Cfg
end Go.Proofs.YtkkmokodaejheaaDoor
namespace Go.Proofs.YtkkmokodaejheaaDoor
open Go Go.Conc
open Go.ConcR (stA smA rd wr KK WgAt Bk g_of_ofEvents)
open Go.ConcN (upd upd_same upd_ne sumTo sumTo_upd CTag WD Vc OpenSt AllQuit isOpen isFin isW3 cnt Vc_upd get_map_set get_map_set_same pend bk_cell others_uncounted le_sumTo Vc_le Deaf_still)
set_option linter.unusedVariables false
namespace Cfg
variable {c : Cfg}
variable {w0 w w' : World} {gs gs' : Array Goroutine} {t u : Trace} {j : Nat} {D : Nat → GD} {tag : MT} {M0 : Nat → Prop} {τ0 : Tr} {d0 : Nat} {a a' : Goroutine} {st sm st' sm' : Int} {H : Cn} {sl : Option (Nat × Nat)} {es : Array Event} {i : Nat} {g g' : Goroutine}
structure Chan (c : Cfg) (w w' : World) : Prop where
 size : w'.heap.size = w.heap.size
 keep : ∀ b, b ≠ c.A.Ch → w'.heap[b]? = w.heap[b]?
 tape : w'.tape = w.tape
 os : w'.os = w.os
 out : w'.output = w.output
theorem Chan.set (w : World) (d : Nat) (cl : Bool) (s r : Nat) (tm : Bool) : Chan c w ((w.at d).setChan c.A.Ch 0 #[] cl s r tm) :=
 ⟨by simp [World.setChan, World.at], fun b hb => by simp only [World.setChan, World.at]; rw [Array.getElem?_setIfInBounds_ne (fun e => hb e.symm)], rfl, rfl, rfl⟩
theorem Chan.set' (w : World) (cl : Bool) (s r : Nat) (tm : Bool) : Chan c w (w.setChan c.A.Ch 0 #[] cl s r tm) :=
 ⟨by simp [World.setChan], fun b hb => by simp only [World.setChan]; rw [Array.getElem?_setIfInBounds_ne (fun e => hb e.symm)], rfl, rfl, rfl⟩
theorem Chan.same (w : World) : Chan c w w := ⟨rfl, fun _ _ => rfl, rfl, rfl, rfl⟩
theorem Chan.eff (K : c.Ok) (h : Chan c w w') (M : Nat → Prop) : c.Eff M w w' := .low K c.A.Ch K.area.cB (fun h => (K.area.rW _ h).2 rfl) h.size h.keep h.tape h.os h.out
theorem Chan.rel (K : c.Ok) (h : Chan c w w') (I : c.BO w0 gs w t j D tag M0 τ0 d0 a st sm H) (hch : ∃ cl s r tm, w'.heap[c.A.Ch]? = some (.chan 0 #[] cl s r tm)) {M : Nat → Prop} (hM : ∀ b, M b → c.A.B0 ≤ b ∧ b < w.heap.size) : c.Rel M w w' := by
 have hsh' : c.Sh w' := ⟨⟨_, _, I.wg.of_block (h.keep _ K.area.wc)⟩, hch, K.csh w w' (Nat.le_of_eq h.size.symm) (fun b _ _ hb => h.keep b hb) I.csh⟩
 exact (h.eff K none_).rel K I.hB hsh' fun b hb => ⟨(hM b hb).1, (hM b hb).2, fun h => h⟩
def Ez : Nat → MT
 | 0 => .clos
 | r + 1 => .send r
theorem UM {r : Nat} (h : c.Sends r g w) : ∃ τ, c.Dc (Ez r) none_ τ 0 g w := by
 cases r with
 | zero => obtain ⟨τ, h⟩ := Own.tree h; exact ⟨τ, .clos h⟩
 | succ r => obtain ⟨τ, h⟩ := Own.tree h; exact ⟨τ, .send h⟩
theorem pass (K : c.Ok) (I : c.BO w0 gs w t j D tag M0 τ0 d0 a st sm H) (hi : i < j) (hz : c.A.z0 ≤ i) {r : Nat} (htag : tag = .send r ∨ tag = .psend r) (hst : (D i).st = .take ∨ (D i).st = .park) (hd0 : d0 = 0) (hdi : (D i).deaf = 0)
  (hwt : tag = .send r → (D i).st = .park)
  (hC : Chan c w w') (hch : ∃ s r tm, w'.heap[c.A.Ch]? = some (.chan 0 #[] false s r tm)) (hsz : gs'.size = gs.size) (h0 : gs'[0]? = some a') (hgi : gs'[i + 1]? = some g') (hoth : ∀ b, b ≠ 0 → b ≠ i + 1 → gs'[b]? = gs[b]?)
  (hm : c.Sends r a' w) (hw : c.WO (c.EA (c.m - (r + 1))) g' w)
  (hu : ∀ op ∈ u, op.g ≤ j ∧ op.act.touch? = none ∧ op.act.low w.heap.size ∧ (∀ m, op.act ≠ .mark m)) :
  ∃ μ', Ka c.N μ' (c.mu j D tag τ0) ∧ c.Kb w0 μ' (crowd gs' w' sl) (t ++ u) := by
 have hr0 : c.Rel none_ w w' := hC.rel K I (let ⟨s, q, tm, h⟩ := hch; ⟨_, s, q, tm, h⟩) fun b hb => hb.elim
 obtain ⟨τ1, hm1⟩ := UM (c.Qg hm hr0)
 obtain ⟨τ2, hw2⟩ := (hw.rely hr0).tree
 have hr : r < c.m := by have := I.fits; rcases htag with rfl | rfl <;> exact this
 have hnx : H.nx = c.m - (r + 1) := by rw [I.nx]; rcases htag with rfl | rfl <;> rfl
 have hop : tag.opn = true := by rcases htag with rfl | rfl <;> rfl
 have hjN : j = c.N := by have := I.jj; rcases htag with rfl | rfl <;> exact this.symm
 have hstill : ∀ g0, Deaf (t ++ u) g0 = Deaf t g0 := fun g0 => Deaf_still t g0 u fun op h => ⟨(hu op h).2.2.2 _, (hu op h).2.2.2 _⟩
 have hwd : (⟨.busy (c.m - (r + 1)), none_, τ2, 0⟩ : GD).wd = (D i).wd := by rcases hst with h | h <;> simp [GD.wd, h, WS.num]
 have hopn' : (Ez r).opn = true := by cases r <;> rfl
 have hct : (Ez r).ct = tag.ct := by rcases htag with rfl | rfl <;> cases r <;> rfl
 have e1 : sumTo j (fun a => (upd D i (⟨.busy (c.m - (r + 1)), none_, τ2, 0⟩ : GD) a).st.wt) + (D i).st.wt = sumTo j (fun a => (D a).st.wt) + 10 := sumTo_upd D (⟨.busy (c.m - (r + 1)), none_, τ2, 0⟩ : GD) (fun d => d.st.wt) hi
 let H' : Cn := { H with nx := H.nx + 1, hold := fun k => if k < H.nx then H.hold k else i + 1 }
 have hHle : H.Le H' := ⟨Nat.le_refl _, fun _ _ => rfl, Nat.le_succ _, fun k hk => by simp only [H']; rw [if_pos hk]⟩
 refine ⟨c.mu j (upd D i ⟨.busy (c.m - (r + 1)), none_, τ2, 0⟩) (Ez r) τ1, ?_, gs', w', sl, j, upd D i ⟨.busy (c.m - (r + 1)), none_, τ2, 0⟩, Ez r, none_, τ1, 0, a', st, sm, H', rfl, ?_, rfl⟩
 ·unfold mu
  refine ET ?_
  rw [G8, hwd, Dr (fun a => (D a).wd) i]
  have hp : (Ez r).phi c.N c.m (Vc j fun a => (D a).wd) ≤ 9 * c.N + 4 * r + 9 := by cases r <;> simp only [Ez, MT.phi] <;> omega
  have hpt : tag.phi c.N c.m (Vc j fun a => (D a).wd) ≥ 9 * c.N + 4 * (r + 1) + 8 := by rcases htag with rfl | rfl <;> simp only [MT.phi] <;> omega
  have hpt2 : tag = .send r → tag.phi c.N c.m (Vc j fun a => (D a).wd) = 9 * c.N + 4 * (r + 1) + 9 := by rintro rfl; rfl
  rcases hst with h | h <;> rw [h] at e1
  ·have h9 : WS.take.wt = 9 := rfl
   rw [h9] at e1
   omega
  ·have h8 : WS.park.wt = 8 := rfl
   rw [h8] at e1
   omega
 ·refine ⟨hsz.trans I.size, h0, hm1, by rw [hjN]; cases r <;> rfl, by cases r <;> simp only [Ez, MT.fits] <;> omega, ?_, fun i' hi' => ?_, fun i' hi' => ?_, fun _ i' hz' hi' => ?_, fun ho i' hi' => ?_, ?_, I.wg.of_block (hC.keep _ K.area.wc), ?_, K.csh w w' (Nat.le_of_eq hC.size.symm) (fun b _ _ h => hC.keep b h) I.csh, ?_, I.hsize.trans hC.size.symm, by rw [hC.size]; exact I.hB, fun i' hi' b hb => ?_, fun b hb => hb.elim,
   by rw [hstill, I.deaf0, hd0], fun i' hi' => ?_, fun g0 hg0 => by rw [hstill, I.above g0 hg0], fun i' hz' hi' hn => ?_, fun k hkn => ?_, fun i' hi' k hb => ?_, I.rw0.trans hr0, fun e => ?_⟩
  ·show H.nx + 1 = _
   rw [hnx]
   cases r <;> simp only [Ez, MT.nx] <;> omega
  ·by_cases e : i' = i
   ·subst e; exact ⟨g', hgi, by rw [upd_same]; exact .busy hw2⟩
   ·obtain ⟨x, hx, hsx⟩ := I.wk i' hi'
    exact ⟨x, by rw [hoth _ (by omega) (by omega)]; exact hx, by rw [upd_ne D _ e]; exact hsx.rely (hC.rel K I (let ⟨s, q, tm, h⟩ := hch; ⟨_, s, q, tm, h⟩) fun b hb => ⟨(I.mem i' hi' b hb).1, (I.mem i' hi' b hb).2.1⟩)⟩
  ·by_cases e : i' = i
   ·subst e; omega
   ·rw [upd_ne D _ e]; exact I.old i' hi'
  ·by_cases e : i' = i
   ·subst e; rw [upd_same]; trivial
   ·rw [upd_ne D _ e]; exact I.opn hop i' hz' hi'
  ·exfalso
   rcases ho with ho | ⟨q, ho⟩
   ·rw [hopn'] at ho; cases ho
   ·cases r <;> cases ho
  ·obtain ⟨s, q, tm, h⟩ := hch
   exact ⟨s, q, tm, by rw [hopn']; exact h⟩
  ·rw [G8, hwd, Dr (fun a => (D a).wd) i, hct]; exact I.mode
  ·exact I.ti.quiet hHle fun op hop => ⟨(hu op hop).1, (hu op hop).2.1, by show op.act.low H.size; rw [I.hsize]; exact (hu op hop).2.2.1, (hu op hop).2.2.2 _⟩
  ·by_cases e : i' = i
   ·subst e; rw [upd_same] at hb; exact hb.elim
   ·rw [upd_ne D _ e] at hb; rw [hC.size]; exact I.mem i' hi' b hb
  ·rw [hstill, I.deafW i' hi']
   by_cases e : i' = i
   ·subst e; rw [upd_same]; exact hdi
   ·rw [upd_ne D _ e]
  ·exfalso
   by_cases e : i' = i
   ·subst e; rw [upd_same] at hn; simp [WS.num] at hn
   ·rw [upd_ne D _ e] at hn
    have := I.opn hop i' hz' hi'
    cases hs : (D i').st <;> rw [hs] at hn this <;> simp [WS.num, WS.loops] at hn this
  ·by_cases ek : k = H.nx
   ·refine .inl ⟨i, hi, by rw [upd_same, ek, hnx], ?_⟩
    show (if k < H.nx then H.hold k else i + 1) = i + 1
    rw [if_neg (by omega)]
   ·have hk : k < H.nx := by have : k < H.nx + 1 := hkn; omega
    rcases I.keys k hk with ⟨i0, hi0, hb0, hh0⟩ | ⟨Dk, hres, hDk⟩
    ·refine .inl ⟨i0, hi0, ?_, ?_⟩
     ·rw [upd_ne D _ (fun e => by subst e; rcases hst with h | h <;> rw [h] at hb0 <;> cases hb0)]; exact hb0
     ·show (if k < H.nx then H.hold k else i + 1) = i0 + 1
      rw [if_pos hk]; exact hh0
    ·refine .inr ⟨Dk, K.res k Dk w w' (fun b hb => hC.keep b fun e => by have := (hDk b hb).1; have := K.area.cB; omega) (fun a ha => cell_of (hC.keep _ (K.area.mB k a ha).2.2)) hres, fun b hb => ?_⟩
     obtain ⟨h1, h2, h3, h4⟩ := hDk b hb
     refine ⟨h1, by rw [hC.size]; exact h2, fun h => h, fun i' hi' h => ?_⟩
     by_cases e : i' = i
     ·subst e; rw [upd_same] at h; exact h
     ·rw [upd_ne D _ e] at h; exact h4 i' hi' h
  ·by_cases e : i' = i
   ·subst e
    rw [upd_same] at hb
    cases hb
    refine ⟨by show _ < H.nx + 1; omega, ?_⟩
    show (if _ < H.nx then _ else i' + 1) = i' + 1
    rw [if_neg (by omega)]
   ·rw [upd_ne D _ e] at hb
    obtain ⟨h1, h2⟩ := I.busy i' hi' k hb
    refine ⟨by show _ < H.nx + 1; omega, ?_⟩
    show (if k < H.nx then H.hold k else i + 1) = i' + 1
    rw [if_pos h1]; exact h2
  ·cases r <;> cases e
end Cfg
end Go.Proofs.YtkkmokodaejheaaDoor
namespace Go.Proofs.YtkkmokodaejheaaDoor
open Go Go.Conc
open Go.ConcR (stA smA rd wr KK WgAt Bk g_of_ofEvents)
open Go.ConcN (upd upd_same upd_ne sumTo sumTo_upd CTag WD Vc OpenSt AllQuit isOpen isFin isW3 cnt Vc_upd get_map_set get_map_set_same pend bk_cell others_uncounted le_sumTo Vc_le Deaf_still)
set_option linter.unusedVariables false
namespace Cfg
variable {c : Cfg}
variable {w0 w w' : World} {gs gs' : Array Goroutine} {t u : Trace} {j : Nat} {D : Nat → GD} {tag tag' : MT} {M0 : Nat → Prop} {τ0 τ0' : Tr} {d0 : Nat} {a a' : Goroutine} {st sm st' sm' : Int} {H : Cn} {sl : Option (Nat × Nat)} {es : Array Event} {i : Nat} {g g' : Goroutine}
theorem Q8 (K : c.Ok) (I : c.BO w0 gs w t j D tag M0 τ0 d0 a st sm H) (hnd : tag ≠ .done) (hi : i < j) (hz : c.A.z0 ≤ i) (hst : (D i).st = .take) (hdi : (D i).deaf = 0) {d' : GD} (hd' : d'.deaf = 0)
  (hs : (d'.st = .park ∧ tag.opn = true ∧ ∀ r, tag ≠ .psend r) ∨ (d'.st = .r0 ∧ tag.opn = false)) (hM : ∀ b, d'.M b → (D i).M b) (hsit : c.WSit d' g' w)
  (hsz : gs'.size = gs.size) (hgi : gs'[i + 1]? = some g') (hoth : ∀ b, b ≠ i + 1 → gs'[b]? = gs[b]?)
  (hu : ∀ op ∈ u, op.g = i + 1 ∧ op.act.touch? = none ∧ op.act.low w.heap.size ∧ (∀ m, op.act ≠ .mark m)) :
  ∃ μ', Ka c.N μ' (c.mu j D tag τ0) ∧ c.Kb w0 μ' (crowd gs' w sl) (t ++ u) := by
 have hstill : ∀ g0, Deaf (t ++ u) g0 = Deaf t g0 := fun g0 => Deaf_still t g0 u fun op h => ⟨(hu op h).2.2.2 _, (hu op h).2.2.2 _⟩
 have hwd : d'.wd = (D i).wd := by rcases hs with ⟨h, _⟩ | ⟨h, _⟩ <;> simp [GD.wd, h, hst, WS.num]
 have e1 : sumTo j (fun a => (upd D i d' a).st.wt) + (D i).st.wt = sumTo j (fun a => (D a).st.wt) + d'.st.wt := sumTo_upd D d' (fun d => d.st.wt) hi
 have hlt : d'.st.wt < (D i).st.wt := by rcases hs with ⟨h, _⟩ | ⟨h, _⟩ <;> rw [h, hst] <;> simp [WS.wt]
 have hnb : ∀ k, d'.st ≠ .busy k := fun k e => by rcases hs with ⟨h, _⟩ | ⟨h, _⟩ <;> rw [h] at e <;> cases e
 have hnum : d'.st.num = 7 := by rcases hs with ⟨h, _⟩ | ⟨h, _⟩ <;> rw [h] <;> rfl
 refine ⟨c.mu j (upd D i d') tag τ0, ?_, gs', w, sl, j, upd D i d', tag, M0, τ0, d0, a, st, sm, H, rfl, ?_, rfl⟩
 ·unfold mu
  refine ET ?_
  rw [G8, hwd, Dr (fun a => (D a).wd) i]
  omega
 ·refine ⟨hsz.trans I.size, by rw [hoth 0 (by omega)]; exact I.ha, I.ms, I.jj, I.fits, I.nx, fun i' hi' => ?_, fun i' hi' => ?_, fun ho i' hz' hi' => ?_, fun ho i' hi' => ?_, I.ch, I.wg, ?_, I.csh, ?_, I.hsize, I.hB, fun i' hi' b hb => ?_, I.mem0,
   by rw [hstill, I.deaf0], fun i' hi' => ?_, fun g0 hg0 => by rw [hstill, I.above g0 hg0], fun i' hz' hi' hn => ?_, fun k hkn => ?_, fun i' hi' k hb => ?_, I.rw0, fun e => absurd e hnd⟩
  ·by_cases e : i' = i
   ·subst e; exact ⟨g', hgi, by rw [upd_same]; exact hsit⟩
   ·obtain ⟨x, hx, hsx⟩ := I.wk i' hi'
    exact ⟨x, by rw [hoth _ (by omega)]; exact hx, by rw [upd_ne D _ e]; exact hsx⟩
  ·by_cases e : i' = i
   ·subst e; omega
   ·rw [upd_ne D _ e]; exact I.old i' hi'
  ·by_cases e : i' = i
   ·subst e
    rw [upd_same]
    rcases hs with ⟨h, _⟩ | ⟨_, h⟩
    ·rw [h]; trivial
    ·rw [ho] at h; cases h
   ·rw [upd_ne D _ e]; exact I.opn ho i' hz' hi'
  ·by_cases e : i' = i
   ·subst e
    rw [upd_same]
    intro hp
    rcases hs with ⟨_, h1, h2⟩ | ⟨h, _⟩
    ·rcases ho with ho | ⟨r, ho⟩
     ·rw [ho] at h1; cases h1
     ·exact h2 r ho
    ·rw [h] at hp; cases hp
   ·rw [upd_ne D _ e]; exact I.nopark ho i' hi'
  ·rw [G8, hwd, Dr (fun a => (D a).wd) i]; exact I.mode
  ·exact I.ti.quiet (Cn.Le.refl H) fun op hop => ⟨by rw [(hu op hop).1]; omega, (hu op hop).2.1, by rw [I.hsize]; exact (hu op hop).2.2.1, (hu op hop).2.2.2 _⟩
  ·by_cases e : i' = i
   ·subst e; rw [upd_same] at hb; exact I.mem i' hi' b (hM b hb)
   ·rw [upd_ne D _ e] at hb; exact I.mem i' hi' b hb
  ·rw [hstill, I.deafW i' hi']
   by_cases e : i' = i
   ·subst e; rw [upd_same, hdi, hd']
   ·rw [upd_ne D _ e]
  ·by_cases e : i' = i
   ·subst e; rw [upd_same, hnum] at hn; omega
   ·rw [upd_ne D _ e] at hn
    obtain ⟨r, hr⟩ := I.rel i' hz' hi' hn
    exact ⟨r, hr.other fun op hop => by rw [(hu op hop).1]; omega⟩
  ·rcases I.keys k hkn with ⟨i0, hi0, hb0, hh0⟩ | ⟨Dk, hres, hDk⟩
   ·exact .inl ⟨i0, hi0, by rw [upd_ne D _ (fun e => by subst e; rw [hst] at hb0; cases hb0)]; exact hb0, hh0⟩
   ·refine .inr ⟨Dk, hres, fun b hb => ?_⟩
    obtain ⟨h1, h2, h3, h4⟩ := hDk b hb
    refine ⟨h1, h2, h3, fun i' hi' h => ?_⟩
    by_cases e : i' = i
    ·subst e; rw [upd_same] at h; exact h4 i' hi' (hM b h)
    ·rw [upd_ne D _ e] at h; exact h4 i' hi' h
  ·by_cases e : i' = i
   ·subst e; rw [upd_same] at hb; exact absurd hb (hnb k)
   ·rw [upd_ne D _ e] at hb; exact I.busy i' hi' k hb
theorem QP (h : c.Dc .blk M0 τ0 d0 a w) : a.offers = none := by
 cases h with
 | blk hb => exact (hb w (.refl ..)).2.1
theorem Qs {r : Nat} (h : c.Dc (.psend r) M0 τ0 d0 a w) : ∃ g0 z, a = Go.Conc.parked g0 #[scase c.A.Ch (.int .i64 (c.m - (r + 1) : Nat)) z] .send ∧ d0 = 0 ∧ c.AtSend (c.m - (r + 1)) (c.Sends r) M0 g0 w := by
 cases h with
 | psend hb => exact ⟨_, _, rfl, rfl, hb w (.refl ..)⟩
theorem DY {d : GD} (h : c.WSit d g w) (hp : d.st = .park) : ∃ g0, g = Go.Conc.parked g0 #[rcase c.A.Ch c.z] (.recv true) ∧ d.deaf = 0 ∧ c.Eo d.M g0 w := by
 cases h with
 | park hb => exact ⟨_, rfl, rfl, hb w (.refl ..)⟩
 | quit hb => cases hp
 | _ => cases hp
theorem MJ (K : c.Ok) (I : c.BO w0 gs w t j D tag M0 τ0 d0 a st sm H) (hnd : tag ≠ .done) (b : Nat) (x : Goroutine) (hx : gs[b]? = some x) (hb : b ≠ 0 ∨ ∀ r, tag ≠ .psend r) : offersAt x c.A.Ch true = [] := by
 rcases Nat.eq_zero_or_pos b with rfl | hpos
 ·rw [I.ha] at hx
  cases hx
  have hp := hb.resolve_left (fun h => h rfl)
  have hms := I.ms
  rcases hms.status K hnd with ⟨hs, _⟩ | ⟨_, hbk | ⟨r, e⟩⟩
  ·exact offersAt_of_not_blocked (by rw [hs]; simp) _ _
  ·subst hbk
   have := QP hms
   unfold offersAt
   rw [this]
   cases a.status <;> rfl
  ·exact absurd e (hp r)
 ·obtain ⟨i, rfl⟩ : ∃ i, b = i + 1 := ⟨b - 1, by omega⟩
  have hlt : i < j := by have := (Array.getElem?_eq_some_iff.1 hx).1; rw [I.size] at this; omega
  obtain ⟨y, hy, hsy⟩ := I.wk i hlt
  rw [hx] at hy
  cases hy
  rcases hsy.status with ⟨hs, _⟩ | ⟨hs, _⟩ | ⟨hs, hp⟩
  ·exact offersAt_of_not_blocked (by rw [hs]; simp) _ _
  ·exact offersAt_of_not_blocked (by rw [hs]; simp) _ _
  ·obtain ⟨g0, rfl, _⟩ := DY hsy hp
   exact offersAt_parked_recv' _ _ _ _ _
theorem QH {M : Nat → Prop} {g2 : Goroutine} (h : ∀ w1, c.Rel M w w1 → c.E8 M g w1) : ∃ g2, (g = g2 ∨ ∃ cs sh, g = { Go.Conc.parked g2 cs sh with status := .running }) ∧ ∀ w1, c.Rel M w w1 → c.Eo M g2 w1 := by
 rcases h w (.refl ..) with h0 | ⟨g2, cs, sh, h0, rfl⟩
 ·refine ⟨g, .inl rfl, fun w1 hr => ?_⟩
  rcases h w1 hr with h1 | ⟨g3, cs, sh, h1, e⟩
  ·exact h1
  ·have := h0.2.1
   rw [e] at this
   cases this
 ·refine ⟨g2, .inr ⟨cs, sh, rfl⟩, fun w1 hr => ?_⟩
  rcases h w1 hr with h1 | ⟨g3, cs', sh', h1, e⟩
  ·have := h1.2.1
   cases this
  ·have e3 : g3 = g2 := by
    obtain ⟨f2, c2, s2, d2, o2⟩ := g2
    obtain ⟨f3, c3, s3, d3, o3⟩ := g3
    have a1 := h0.1; have a2 := h0.2.1; have b1 := h1.1; have b2 := h1.2.1
    simp only at a1 a2 b1 b2
    subst a1; subst a2; subst b1; subst b2
    simp only [Go.Conc.parked, Goroutine.mk.injEq] at e
    obtain ⟨rfl, rfl, _, rfl, _⟩ := e
    rfl
   exact e3 ▸ h1
theorem SS (K : c.Ok) (I : c.BO w0 gs w t j D tag M0 τ0 d0 a st sm H) (hnd : tag ≠ .done) (hi : i < j) (hz : c.A.z0 ≤ i) {M : Nat → Prop} {τ : Tr} (hd : D i = ⟨.take, M, τ, 0⟩) (hg : gs[i + 1]? = some g) (h : ∀ w1, c.Rel M w w1 → c.E8 M g w1) : c.BX w0 gs w sl t j D tag τ0 (i + 1) := by
 obtain ⟨g2, hgf, h2⟩ := QH (g2 := g) h
 obtain ⟨hrun, hoff, hcomm, hkeys, hfin⟩ := h2 w (.refl ..)
 have hcomm' : stepG c.P (i + 1 == 0) g w = .comm g2 #[rcase c.A.Ch c.z] true (.recv true) w #[] := by
  show stepG c.P false g w = _
  rcases hgf with rfl | ⟨cs, sh, rfl⟩
  ·exact hcomm
  ·rw [stepG_tries]
   have : ({ g2 with status := .running } : Goroutine) = g2 := by rw [← hrun]
   rw [this]; exact hcomm
 have hst : (D i).st = .take := by rw [hd]
 have hdi : (D i).deaf = 0 := by rw [hd]
 have hlt : i + 1 < gs.size := by rw [I.size]; omega
 obtain ⟨s, r, tm, hch⟩ := I.ch
 have hB := K.area.cB
 have hIB := I.hB
 by_cases hps : ∃ q, tag = .psend q
 ·obtain ⟨q, rfl⟩ := hps
  obtain ⟨g0, z, rfl, hd0, hs⟩ := Qs I.ms
  obtain ⟨_, _, _, _, hnext⟩ := hs
  have hp : partners (gs.setIfInBounds (i + 1) ph) c.A.Ch true = [(0, 0)] := by
   have h0 : (gs.setIfInBounds (i + 1) ph)[0]? = some (Go.Conc.parked g0 #[scase c.A.Ch (.int .i64 (c.m - (q + 1) : Nat)) z] .send) := by rw [Array.getElem?_setIfInBounds_ne (by omega)]; exact I.ha
   rw [partners_one h0 fun b x hb hx => ?_, offersAt_parked_send]
   ·simp
   ·rcases getElem?_stand gs (i + 1) b x hx with ⟨_, rfl⟩ | ⟨_, hx'⟩
    ·exact offersAt_ph _ _
    ·exact MJ K I hnd b x hx' (.inl hb)
  have hrunT := crowd_recv_meets (P := c.P) (sl := sl) hg hcomm' hch (j := 0) (by omega) I.ha hp
  obtain ⟨μ', h1, h3⟩ := pass (sl := sl) K I hi hz (r := q) (gs' := (gs.setIfInBounds 0 (g0.finishComm c.P #[scase c.A.Ch (.int .i64 (c.m - (q + 1) : Nat)) z] .send 0 undef false)).setIfInBounds (i + 1) (g2.finishComm c.P #[rcase c.A.Ch c.z] (.recv true) 0 (.int .i64 (c.m - (q + 1) : Nat)) true))
   (u := MemOp.ofEvents (i + 1) g.frame.fn g.frame.place #[] ++ #[{ g := 0, fn := g0.frame.fn, pos := g0.frame.place, act := .send c.A.Ch s }, { g := i + 1, fn := g2.frame.fn, pos := g2.frame.place, act := .recv c.A.Ch r 0 },
    { g := 0, fn := g0.frame.fn, pos := g0.frame.place, act := .sendDone c.A.Ch s }, { g := i + 1, fn := g2.frame.fn, pos := g2.frame.place, act := .recvDone c.A.Ch r }]) (.inr rfl) (.inl hst) hd0 hdi (fun e => by cases e)
   (Chan.set' w false (s + 1) (r + 1) tm) ⟨s + 1, r + 1, tm, by
    have : c.A.Ch < w.heap.size := by omega
    simp [World.setChan, this]⟩ (by simp) (by
    rw [Array.getElem?_setIfInBounds_ne (by omega), Array.getElem?_setIfInBounds_self_of_lt (by omega)]
    rfl) (by
    rw [Array.getElem?_setIfInBounds_self_of_lt (by simpa using hlt)]) (fun b hb hb' => by rw [Array.getElem?_setIfInBounds_ne (by omega), Array.getElem?_setIfInBounds_ne (by omega)]) hnext (by
    rw [finishComm_recv]
    exact hkeys _ (by have : q < c.m := I.fits; omega)) (fun op hop => by
    have hop' : op ∈ #[{ g := 0, fn := g0.frame.fn, pos := g0.frame.place, act := .send c.A.Ch s }, { g := i + 1, fn := g2.frame.fn, pos := g2.frame.place, act := .recv c.A.Ch r 0 },
     { g := 0, fn := g0.frame.fn, pos := g0.frame.place, act := .sendDone c.A.Ch s }, { g := i + 1, fn := g2.frame.fn, pos := g2.frame.place, act := .recvDone c.A.Ch r }] := by simpa [ofEvents_eq] using hop
    simp only [List.mem_toArray, List.mem_cons, List.not_mem_nil, or_false] at hop'
    have hlow : c.A.Ch < w.heap.size := by omega
    rcases hop' with rfl | rfl | rfl | rfl
    ·exact ⟨Nat.zero_le _, rfl, hlow, by simp⟩
    ·exact ⟨by simp only; omega, rfl, hlow, by simp⟩
    ·exact ⟨Nat.zero_le _, rfl, hlow, by simp⟩
    ·exact ⟨by simp only; omega, rfl, hlow, by simp⟩)
  exact ⟨_, _, μ', hrunT, h1, h3⟩
 ·have hps' : ∀ q, tag ≠ .psend q := fun q e => hps ⟨q, e⟩
  have hp : partners (gs.setIfInBounds (i + 1) ph) c.A.Ch true = [] := partners_nil fun b x hx => by
   rcases getElem?_stand gs (i + 1) b x hx with ⟨_, rfl⟩ | ⟨_, hx'⟩
   ·exact offersAt_ph _ _
   ·exact MJ K I hnd b x hx' (.inr hps')
  cases ho : tag.opn with
  | true =>
   rw [ho] at hch
   have hrunT := crowd_waits (P := c.P) (sl := sl) hg hcomm' fun cc hcc => by
    simp only [List.mem_toArray, List.mem_cons, List.not_mem_nil, or_false] at hcc
    subst hcc
    exact ways_recv_none hch hp
   obtain ⟨μ', h1, h3⟩ := Q8 (sl := sl) K I hnd hi hz hst hdi (d' := ⟨.park, M, .leaf, 0⟩) rfl (.inl ⟨rfl, ho, hps'⟩) (fun b hb => by rw [hd]; exact hb) (.park h2)
    (gs' := gs.setIfInBounds (i + 1) (Go.Conc.parked g2 #[rcase c.A.Ch c.z] (.recv true))) (by simp) (by rw [Array.getElem?_setIfInBounds_self_of_lt hlt]) (fun b hb => by rw [Array.getElem?_setIfInBounds_ne (by omega)])
    (u := MemOp.ofEvents (i + 1) g.frame.fn g.frame.place #[]) (fun op hop => by simp [ofEvents_eq] at hop)
   exact ⟨_, _, μ', hrunT, h1, h3⟩
  | false =>
   rw [ho] at hch
   have hrunT := crowd_recv_closed (P := c.P) (sl := sl) hg hcomm' hch hp
   obtain ⟨τ', hτ⟩ := hfin.tree
   obtain ⟨μ', h1, h3⟩ := Q8 (sl := sl) K I hnd hi hz hst hdi (d' := ⟨.r0, none_, τ', 0⟩) rfl (.inr ⟨rfl, ho⟩) (fun b hb => hb.elim) (.r0 hτ)
    (gs' := gs.setIfInBounds (i + 1) (g2.finishComm c.P #[rcase c.A.Ch c.z] (.recv true) 0 c.z false)) (by simp) (by rw [Array.getElem?_setIfInBounds_self_of_lt hlt]; rfl) (fun b hb => by rw [Array.getElem?_setIfInBounds_ne (by omega)])
    (u := MemOp.ofEvents (i + 1) g.frame.fn g.frame.place #[] ++ #[{ g := i + 1, fn := g2.frame.fn, pos := g2.frame.place, act := .recvClosed c.A.Ch }]) (fun op hop => by
     have hop' : op = { g := i + 1, fn := g2.frame.fn, pos := g2.frame.place, act := .recvClosed c.A.Ch } := by simpa [ofEvents_eq] using hop
     subst hop'
     have hlow : c.A.Ch < w.heap.size := by omega
     exact ⟨rfl, rfl, hlow, by simp⟩)
   exact ⟨_, _, μ', hrunT, h1, h3⟩
end Cfg
end Go.Proofs.YtkkmokodaejheaaDoor
namespace Go.Proofs.YtkkmokodaejheaaDoor
open Go Go.Conc
open Go.ConcR (stA smA rd wr KK WgAt Bk g_of_ofEvents)
open Go.ConcN (upd upd_same upd_ne sumTo sumTo_upd CTag WD Vc OpenSt AllQuit isOpen isFin isW3 cnt Vc_upd get_map_set get_map_set_same pend bk_cell others_uncounted le_sumTo Vc_le Deaf_still)
set_option linter.unusedVariables false
namespace Cfg
variable {c : Cfg}
variable {w0 w w' : World} {gs gs' : Array Goroutine} {t u : Trace} {j : Nat} {D : Nat → GD} {tag tag' : MT} {M0 : Nat → Prop} {τ0 τ0' : Tr} {d0 : Nat} {a a' : Goroutine} {st sm st' sm' : Int} {H : Cn} {sl : Option (Nat × Nat)} {es : Array Event} {i q : Nat} {g g' : Goroutine}
theorem Qu {x y : Goroutine} {cs cs' : Array CommCase} {sh sh' : CommShape} (h : Go.Conc.parked x cs sh = Go.Conc.parked y cs' sh') : (∀ v, Go.Conc.served x v = Go.Conc.served y v) ∧ cs = cs' ∧ sh = sh' := by
 obtain ⟨f2, c2, s2, d2, o2⟩ := x
 obtain ⟨f3, c3, s3, d3, o3⟩ := y
 simp only [Go.Conc.parked, Goroutine.mk.injEq, Option.some.injEq, Prod.mk.injEq] at h
 obtain ⟨rfl, rfl, _, rfl, rfl, rfl⟩ := h
 exact ⟨fun v => rfl, rfl, rfl⟩
theorem Qk (K : c.Ok) (I : c.BO w0 gs w t j D (.send q) M0 τ0 d0 a st sm H) (b : Nat) (x : Goroutine) (hx : gs[b]? = some x) : offersAt x c.A.Ch false = [] ∨ (offersAt x c.A.Ch false = [0] ∧ ∃ i, b = i + 1 ∧ i < j ∧ (D i).st = .park) := by
 rcases Nat.eq_zero_or_pos b with rfl | hpos
 ·rw [I.ha] at hx
  cases hx
  rcases I.ms.status K (by simp) with ⟨hs, _⟩ | ⟨_, h | ⟨r, h⟩⟩
  ·exact .inl (offersAt_of_not_blocked (by rw [hs]; simp) _ _)
  ·cases h
  ·cases h
 ·obtain ⟨i, rfl⟩ : ∃ i, b = i + 1 := ⟨b - 1, by omega⟩
  have hlt : i < j := by have := (Array.getElem?_eq_some_iff.1 hx).1; rw [I.size] at this; omega
  obtain ⟨y, hy, hsy⟩ := I.wk i hlt
  rw [hx] at hy
  cases hy
  rcases hsy.status with ⟨hs, _⟩ | ⟨hs, _⟩ | ⟨hs, hp⟩
  ·exact .inl (offersAt_of_not_blocked (by rw [hs]; simp) _ _)
  ·exact .inl (offersAt_of_not_blocked (by rw [hs]; simp) _ _)
  ·obtain ⟨g0, rfl, _⟩ := DY hsy hp
   exact .inr ⟨by rw [offersAt_parked_recv]; simp, i, rfl, hlt, hp⟩
theorem UX (K : c.Ok) (I : c.BO w0 gs w t j D (.send q) M0 τ0 d0 a st sm H) (hd0 : d0 = 0) (h : ∀ w1, c.Rel M0 w w1 → c.AtSend (c.m - (q + 1)) (c.Sends q) M0 a w1) : c.BX w0 gs w sl t j D (.send q) τ0 0 := by
 obtain ⟨hrun, hoff, z, hcomm, hnext⟩ := h w (.refl ..)
 have hcomm' : stepG c.P (0 == 0) a w = .comm a #[scase c.A.Ch (.int .i64 (c.m - (q + 1) : Nat)) z] true .send w #[] := hcomm
 have hlt : 0 < gs.size := by rw [I.size]; omega
 obtain ⟨s, r, tm, hch⟩ := I.ch
 have hB := K.area.cB
 have hIB := I.hB
 have hqm : q < c.m := I.fits
 by_cases hp : partners (gs.setIfInBounds 0 ph) c.A.Ch false = []
 ·have hrunT := crowd_waits (P := c.P) (sl := sl) I.ha hcomm' fun cc hcc => by
   simp only [List.mem_toArray, List.mem_cons, List.not_mem_nil, or_false] at hcc
   subst hcc
   exact ways_send_none hch (by simp) hp
  have hnp : ∀ i, i < j → (D i).st ≠ .park := fun i hi hpk => by
   obtain ⟨x, hx, hsx⟩ := I.wk i hi
   obtain ⟨g0, rfl, _⟩ := DY hsx hpk
   have : (i + 1, 0) ∈ partners (gs.setIfInBounds 0 ph) c.A.Ch false := mem_partners.2 ⟨_, by rw [Array.getElem?_setIfInBounds_ne (by omega)]; exact hx, by rw [offersAt_parked_recv]; simp⟩
   rw [hp] at this
   cases this
  refine ⟨_, _, c.mu j D (.psend q) .leaf, hrunT, ET (by simp only [MT.phi]; omega), _, w, sl, j, D, .psend q, M0, .leaf, 0, Go.Conc.parked a #[scase c.A.Ch (.int .i64 (c.m - (q + 1) : Nat)) z] .send, st, sm, H, rfl, ?_, rfl⟩
  have e : t ++ MemOp.ofEvents 0 a.frame.fn a.frame.place #[] = t := by simp [ofEvents_eq]
  rw [e]
  exact ⟨by simp [I.size], by rw [Array.getElem?_setIfInBounds_self_of_lt hlt], .psend h, I.jj, I.fits, I.nx, fun i hi => by rw [Array.getElem?_setIfInBounds_ne (by omega)]; exact I.wk i hi, I.old, fun _ => I.opn rfl, fun _ => hnp, I.ch, I.wg, I.mode, I.csh, I.ti, I.hsize, I.hB, I.mem, I.mem0, by rw [I.deaf0, hd0], I.deafW, I.above, I.rel, I.keys, I.busy, I.rw0, fun e => by cases e⟩
 ·obtain ⟨b, gj, zj, shj, d, hb, hj, hrunT⟩ := crowd_send_meets_some (P := c.P) (sl := sl) I.ha hcomm' hch hp fun b k hbk => by
   obtain ⟨x, hx, hk⟩ := mem_partners.1 hbk
   rcases getElem?_stand gs 0 b x hx with ⟨_, rfl⟩ | ⟨hb0, hx'⟩
   ·rw [offersAt_ph] at hk; cases hk
   ·rcases Qk K I b x hx' with h0 | ⟨h1, i, rfl, hi, hpk⟩
    ·rw [h0] at hk; cases hk
    ·rw [h1] at hk
     obtain ⟨y, hy, hsy⟩ := I.wk i hi
     rw [hx'] at hy; cases hy
     obtain ⟨g0, rfl, _⟩ := DY hsy hpk
     exact ⟨by simpa using hk, hb0, g0, _, _, hx'⟩
  obtain ⟨i, rfl⟩ : ∃ i, b = i + 1 := ⟨b - 1, by omega⟩
  have hi : i < j := by have := (Array.getElem?_eq_some_iff.1 hj).1; rw [I.size] at this; omega
  obtain ⟨y, hy, hsy⟩ := I.wk i hi
  rw [hj] at hy; cases hy
  have hpk : (D i).st = .park := by
   rcases hsy.status with ⟨hs, _⟩ | ⟨hs, _⟩ | ⟨_, hp⟩
   ·cases hs
   ·cases hs
   ·exact hp
  have hz : c.A.z0 ≤ i := Nat.le_of_not_lt fun hlt' => by have := I.old i hlt'; rw [hpk] at this; cases this
  obtain ⟨g0, hg0, hdf, hat⟩ := DY hsy hpk
  obtain ⟨hserv, hcs, rfl⟩ := Qu hg0
  obtain ⟨μ', h1, h3⟩ := pass (sl := sl) K I hi hz (r := q) (gs' := (gs.setIfInBounds (i + 1) (gj.finishComm c.P #[rcase c.A.Ch zj] (.recv true) 0 (.int .i64 (c.m - (q + 1) : Nat)) true)).setIfInBounds 0 (a.finishComm c.P #[scase c.A.Ch (.int .i64 (c.m - (q + 1) : Nat)) z] .send 0 undef false))
   (u := MemOp.ofEvents 0 a.frame.fn a.frame.place #[] ++ #[{ g := 0, fn := a.frame.fn, pos := a.frame.place, act := .send c.A.Ch s }, { g := i + 1, fn := gj.frame.fn, pos := gj.frame.place, act := .recv c.A.Ch r 0 },
    { g := 0, fn := a.frame.fn, pos := a.frame.place, act := .sendDone c.A.Ch s }, { g := i + 1, fn := gj.frame.fn, pos := gj.frame.place, act := .recvDone c.A.Ch r }]) (.inl rfl) (.inr hpk) hd0 hdf (fun _ => hpk)
   (Chan.set w d false (s + 1) (r + 1) tm) ⟨s + 1, r + 1, tm, by
    have : c.A.Ch < w.heap.size := by omega
    simp [World.setChan, World.at, this]⟩ (by simp) (by
    rw [Array.getElem?_setIfInBounds_self_of_lt (by simpa using hlt)]
    rfl) (by
    rw [Array.getElem?_setIfInBounds_ne (by omega), Array.getElem?_setIfInBounds_self_of_lt (by rw [I.size]; omega)]) (fun b hb hb' => by rw [Array.getElem?_setIfInBounds_ne (by omega), Array.getElem?_setIfInBounds_ne (by omega)]) hnext (by
    rw [finishComm_recv, hserv]
    exact hat.2.2.2.1 _ (by omega)) (fun op hop => by
    have hop' : op ∈ #[{ g := 0, fn := a.frame.fn, pos := a.frame.place, act := .send c.A.Ch s }, { g := i + 1, fn := gj.frame.fn, pos := gj.frame.place, act := .recv c.A.Ch r 0 },
     { g := 0, fn := a.frame.fn, pos := a.frame.place, act := .sendDone c.A.Ch s }, { g := i + 1, fn := gj.frame.fn, pos := gj.frame.place, act := .recvDone c.A.Ch r }] := by simpa [ofEvents_eq] using hop
    simp only [List.mem_toArray, List.mem_cons, List.not_mem_nil, or_false] at hop'
    have hlow : c.A.Ch < w.heap.size := by omega
    rcases hop' with rfl | rfl | rfl | rfl
    ·exact ⟨Nat.zero_le _, rfl, hlow, by simp⟩
    ·exact ⟨by simp only; omega, rfl, hlow, by simp⟩
    ·exact ⟨Nat.zero_le _, rfl, hlow, by simp⟩
    ·exact ⟨by simp only; omega, rfl, hlow, by simp⟩)
  exact ⟨_, _, μ', hrunT, h1, h3⟩
def Eh (d : GD) : GD := match d.st with
 | .park => ⟨.take, d.M, .leaf, 0⟩
 | _ => d
theorem CB {d : GD} (h : d.st ≠ .park) : Eh d = d := by
 unfold Eh; split
 ·exact absurd ‹_› h
 ·rfl
theorem Cq {d : GD} (h : d.st = .park) : Eh d = ⟨.take, d.M, .leaf, 0⟩ := by
 unfold Eh; rw [h]
theorem Md (d : GD) : (Eh d).wd = d.wd := by
 by_cases h : d.st = .park
 ·rw [Cq h]; simp [GD.wd, h, WS.num]
 ·rw [CB h]
theorem Ol (d : GD) : (Eh d).M = d.M := by
 by_cases h : d.st = .park
 ·rw [Cq h]
 ·rw [CB h]
theorem RI (d : GD) : (Eh d).st.wt ≤ d.st.wt + 1 := by
 by_cases h : d.st = .park
 ·rw [Cq h, h]; simp [WS.wt]
 ·rw [CB h]; omega
theorem KC (D : Nat → GD) : ∀ j, sumTo j (fun i => (Eh (D i)).st.wt) ≤ sumTo j (fun i => (D i).st.wt) + j
 | 0 => by simp [sumTo]
 | j + 1 => by
  have := KC D j
  have := RI (D j)
  simp only [sumTo]
  omega
theorem Sk (K : c.Ok) (I : c.BO w0 gs w t j D .clos M0 τ0 d0 a st sm H) (hd0 : d0 = 0) (h : c.AtClose M0 a w) : c.BX w0 gs w sl t j D .clos τ0 0 := by
 obtain ⟨hrun, hmw, hall⟩ := h
 obtain ⟨s, r, tm, hch⟩ := I.ch
 obtain ⟨a', hrun', hgo, hk⟩ := hall s r tm hch
 obtain ⟨τ', hτ⟩ := hk.tree
 have hB := K.area.cB
 have hIB := I.hB
 have hlt : 0 < gs.size := by rw [I.size]; omega
 have hC : Chan c w (w.setChan c.A.Ch 0 #[] true s r tm) := Chan.set' w true s r tm
 generalize hw' : w.setChan c.A.Ch 0 #[] true s r tm = w' at hgo hτ hC
 have hch' : w'.heap[c.A.Ch]? = some (.chan 0 #[] true s r tm) := by
  have : c.A.Ch < w.heap.size := by omega
  rw [← hw']; simp [World.setChan, this]
 have hsh' : c.Sh w' := ⟨⟨_, _, I.wg.of_block (hC.keep _ K.area.wc)⟩, ⟨_, s, r, tm, hch'⟩, K.csh w w' (Nat.le_of_eq hC.size.symm) (fun b _ _ h => hC.keep b h) I.csh⟩
 have hri : ∀ i, i < j → c.Rel (D i).M w w' := fun i hi => hC.rel K I ⟨_, s, r, tm, hch'⟩ fun b hb => ⟨(I.mem i hi b hb).1, (I.mem i hi b hb).2.1⟩
 have hrunT := runT_crowd_go (P := c.P) (sl := sl) (i := 0) I.ha (show stepG c.P (0 == 0) a w = _ from hgo)
 have hjN : j = c.N := I.jj.symm
 refine ⟨_, _, c.mu j (fun i => Eh (D i)) .kd τ', hrunT, ?_, _, w', sl, j, fun i => Eh (D i), .kd, none_, τ', 0, a', st, sm, H, rfl, ?_, rfl⟩
 ·unfold mu
  refine ET ?_
  have e : (fun a => (Eh (D a)).wd) = fun a => (D a).wd := funext fun a => Md _
  have := KC D j
  rw [e]
  simp only [MT.phi]
  omega
 ·refine ⟨by simp [I.size], get_map_set_same _ _ _ hlt, .kd hτ, hjN.symm, trivial, I.nx, fun i hi => ?_, fun i hi => ?_, fun e => by (cases e), fun _ i hi hp => ?_, ⟨s, r, tm, hch'⟩, I.wg.of_block (hC.keep _ K.area.wc), ?_, K.csh w w' (Nat.le_of_eq hC.size.symm) (fun b _ _ h => hC.keep b h) I.csh, ?_, I.hsize.trans hC.size.symm, by rw [hC.size]; exact I.hB, fun i hi b hb => ?_, fun b hb => hb.elim,
   by rw [Deaf_own, I.deaf0, hd0]; rfl, fun i hi => ?_, fun g0 hg0 => by rw [Deaf_other t (by omega) _ g_of_ofEvents, I.above g0 hg0], fun i hz hi hn => ?_, fun k hkn => ?_, fun i hi k hb => ?_, I.rw0.trans (hC.rel K I ⟨_, s, r, tm, hch'⟩ fun b hb => hb.elim), fun e => by (cases e)⟩
  ·obtain ⟨x, hx, hsx⟩ := I.wk i hi
   by_cases hp : (D i).st = .park
   ·rw [Cq hp]
    have hst : ∀ w1, c.Rel (D i).M w w1 → ∃ g0, x = Go.Conc.parked g0 #[rcase c.A.Ch c.z] (.recv true) ∧ c.Eo (D i).M g0 w1 := fun w1 hr => by
     obtain ⟨g0, e, _, h⟩ := DY (hsx.rely hr) hp
     exact ⟨g0, e, h⟩
    obtain ⟨g0, rfl, _⟩ := hst w (.refl ..)
    refine ⟨{ Go.Conc.parked g0 #[rcase c.A.Ch c.z] (.recv true) with status := .running }, ?_, .take (τ := .leaf) fun w1 hr => ?_⟩
    ·rw [get_map_set _ _ _ _ (by omega), hx, Option.map_some]
     unfold Go.Conc.woken
     rw [if_pos (by simp [hmw, hrun']), again_recv_closed hch']
    ·obtain ⟨g1, e1, h1⟩ := hst w1 ((hri i hi).trans hr)
     refine .inr ⟨g1, #[rcase c.A.Ch c.z], .recv true, h1, by rw [e1]⟩
   ·rw [CB hp]
    refine ⟨x, ?_, hsx.rely (hri i hi)⟩
    rw [get_map_set _ _ _ _ (by omega), hx, Option.map_some, hsx.woken a a' fun h => absurd h hp]
  ·rw [CB (by rw [I.old i hi]; simp)]; exact I.old i hi
  ·by_cases h : (D i).st = .park
   ·rw [Cq h] at hp; cases hp
   ·rw [CB h] at hp; exact h hp
  ·have e : (fun a => (Eh (D a)).wd) = fun a => (D a).wd := funext fun a => Md _
   rw [e]; exact I.mode
  ·refine I.ti.app (g := 0) K.area (.inl rfl) (Cn.Le.refl H) fun op hop => ?_
   rw [ofEvents_eq] at hop
   obtain ⟨e, he, rfl⟩ := Array.mem_map.1 hop
   have hlow : c.A.Ch < H.size := by rw [I.hsize]; omega
   simp only [List.mem_toArray, List.mem_cons, List.not_mem_nil, or_false] at he
   rcases he with rfl | rfl
   ·refine ⟨rfl, fun x hx => ?_, hlow, by simp [MemAct.ofEvent]⟩
    have : x = ⟨.obj c.A.Ch, false, .atomic⟩ := by simpa [MemAct.ofEvent, MemAct.touch?] using hx.symm
    subst this
    exact .ch rfl (by simp) (by simp)
   ·exact ⟨rfl, fun x hx => by simp [MemAct.ofEvent, MemAct.touch?] at hx, hlow, by simp [MemAct.ofEvent]⟩
  ·rw [Ol] at hb; rw [hC.size]; exact I.mem i hi b hb
  ·rw [Deaf_other t (by omega) _ g_of_ofEvents, I.deafW i hi]
   by_cases hp : (D i).st = .park
   ·rw [Cq hp]
    obtain ⟨x, hx, hsx⟩ := I.wk i hi
    exact (DY hsx hp).choose_spec.2.1
   ·rw [CB hp]
  ·exfalso
   have := I.opn rfl i hz hi
   by_cases hp : (D i).st = .park
   ·rw [Cq hp] at hn; simp [WS.num] at hn
   ·rw [CB hp] at hn
    cases hs : (D i).st <;> rw [hs] at hn this <;> simp [WS.num, WS.loops] at hn this
  ·rcases I.keys k hkn with ⟨i0, hi0, hb0, hh0⟩ | ⟨Dk, hres, hDk⟩
   ·exact .inl ⟨i0, hi0, by rw [CB (by rw [hb0]; simp)]; exact hb0, hh0⟩
   ·refine .inr ⟨Dk, K.res k Dk w w' (fun b hb => hC.keep b fun e => by have := (hDk b hb).1; omega) (fun a ha => cell_of (hC.keep _ (K.area.mB k a ha).2.2)) hres, fun b hb => ?_⟩
    obtain ⟨h1, h2, h3, h4⟩ := hDk b hb
    exact ⟨h1, by rw [hC.size]; exact h2, fun h => h, fun i hi h => h4 i hi (by rwa [Ol] at h)⟩
  ·refine I.busy i hi k ?_
   by_cases hp : (D i).st = .park
   ·rw [Cq hp] at hb; cases hb
   ·rwa [CB hp] at hb
end Cfg
end Go.Proofs.YtkkmokodaejheaaDoor
