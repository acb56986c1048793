/- Texts of the proof, merged: Rn16, Rn17, An, Lwa, Lwb, Lwc, Ao, Lwd, Rn18, LcA, Lwe, Lwf, Lwg, Lwh, Lwi, Lwj, Lwk, Lwl, Bsd, Gow. -/
import Derived.Test.YtkkmokodaejheaaDoorPRn15
import Derived.Orders
import Derived.Test.YtkkmokodaejheaaDoorPRn4
import Derived.Conc.CrowdMono
import GoSem.Extern.SlicesOverlaps
import Derived.Test.YtkkmokodaejheaaDoorProg
import Derived.KernelRfl
import Derived.Test.YtkkmokodaejheaaDoorPSxX
import Derived.Conc.Beside
import Derived.Test.YtkkmokodaejheaaDoorPSxA
set_option linter.unusedVariables false
set_option linter.unusedSimpArgs false
set_option linter.unusedSectionVars false
set_option maxRecDepth 100000
namespace Go.Proofs.YtkkmokodaejheaaDoor
open Go Go.Conc
structure LC where
 fr : Frame
 cs : List Frame
 v : World
def LC.over (c : LC) : Prop := c.cs = [] ∧ (c.fr.mode = .returning ∨ (c.fr.mode = .run ∧ c.fr.todo = [mkI]))
def LC.m (c : LC) (t : Nat → Question → Nat) : Machine := lone c.fr (c.cs ++ [sent]) (c.v.tp t)
def DJ (P : Program) (KR : FuncId → Array Value → World → Prop) (KO : FuncId → Array Value → World → Prop) (c : LC) : Prop := ∀ t, (∀ j, j < c.v.drawn → t j = c.v.tape j) →
 ∃ n fr w, runN P n (c.m t) = .next (lone fr [sent] w) ∧ ((fr.mode = .returning ∧ KR fr.fn fr.tmps w) ∨ (fr.mode = .run ∧ fr.todo = [mkI] ∧ KO fr.fn fr.tmps w))
def SH (P : Program) (x y : LC) : Prop := RA P y.fr y.cs y.v x.fr x.cs x.v ∧ ¬ y.over
theorem J9 {α : Type} {r : α → α → Prop} (x : α) (h : ∀ f : Nat → α, f 0 = x → (∀ n, r (f (n + 1)) (f n)) → False) : Acc r x := by
 apply Classical.byContradiction
 intro hx
 have hs : ∀ y : {y // ¬ Acc r y}, ∃ z : {y // ¬ Acc r y}, r z.1 y.1 := by
  intro y
  apply Classical.byContradiction
  intro hn
  exact y.2 (.intro y.1 fun z hz => Classical.byContradiction fun hz' => hn ⟨⟨z, hz'⟩, hz⟩)
 let F : Nat → {y // ¬ Acc r y} := fun n => Nat.rec ⟨x, hx⟩ (fun _ y => Classical.choose (hs y)) n
 exact h (fun n => (F n).1) rfl fun n => Classical.choose_spec (hs (F n))
section
variable {P : Program} {KR : FuncId → Array Value → World → Prop} {KO : FuncId → Array Value → World → Prop}
theorem DJ.next {x y : LC} (h : DJ P KR KO y) (hr : SH P x y) : DJ P KR KO x := by
 obtain ⟨hl, hn⟩ := hr
 intro t ht
 obtain ⟨n, fr, w, h1, h2⟩ := h t fun j hj => (ht j (Nat.lt_of_lt_of_le hj hl.drawn)).trans (hl.tape j hj)
 cases n with
 | zero =>
  simp only [runN, Stepped.next.injEq] at h1
  obtain ⟨e1, e2, _⟩ := FB h1
  refine absurd ⟨by simpa using e2, ?_⟩ hn
  rw [e1]
  exact h2.imp (fun h => h.1) fun h => ⟨h.1, h.2.1⟩
 | succ n =>
  have e : step P (y.m t) = .next (x.m t) := hl.go t ht
  simp only [runN, e] at h1
  exact ⟨n, fr, w, h1, h2⟩
theorem DJ.acc {c : LC} (h : DJ P KR KO c) : Acc (SH P) c := by
 classical
 refine J9 c fun f h0 hf => ?_
 have mono : ∀ i d, (f i).v.drawn ≤ (f (i + d)).v.drawn ∧ ∀ j, j < (f i).v.drawn → (f (i + d)).v.tape j = (f i).v.tape j := by
  intro i d
  induction d with
  | zero => exact ⟨Nat.le_refl _, fun _ _ => rfl⟩
  | succ d ih =>
   have hs := (hf (i + d)).1
   exact ⟨Nat.le_trans ih.1 hs.drawn, fun j hj => (hs.tape j (Nat.lt_of_lt_of_le hj ih.1)).trans (ih.2 j hj)⟩
 let T : Nat → Question → Nat := fun j => if h : ∃ i, j < (f i).v.drawn then (f (Classical.choose h)).v.tape j else fun _ => 0
 have hT : ∀ i j, j < (f i).v.drawn → T j = (f i).v.tape j := by
  intro i j hj
  have hex : ∃ i, j < (f i).v.drawn := ⟨i, hj⟩
  show (if h : ∃ i, j < (f i).v.drawn then (f (Classical.choose h)).v.tape j else fun _ => 0) = _
  rw [dif_pos hex]
  have hc := Classical.choose_spec hex
  generalize Classical.choose hex = i0 at hc
  rcases Nat.le_total i0 i with hle | hle
  ·have := (mono i0 (i - i0)).2 j hc
   rw [Nat.add_sub_cancel' hle] at this
   exact this.symm
  ·have := (mono i (i0 - i)).2 j hj
   rw [Nat.add_sub_cancel' hle] at this
   exact this
 have run : ∀ n, runN P n ((f 0).m T) = .next ((f n).m T) := by
  intro n
  induction n with
  | zero => rfl
  | succ n ih =>
   rw [runN_add, ih]
   have e : step P ((f n).m T) = .next ((f (n + 1)).m T) := (hf n).1.go T (hT (n + 1))
   simp only [runN, e]
 obtain ⟨n, fr, w, h1, h2⟩ := h T fun j hj => by rw [← h0] at hj ⊢; exact hT 0 j hj
 rw [← h0, run n] at h1
 injection h1 with h1
 obtain ⟨e1, e2, _⟩ := FB h1
 refine (hf n).2 ⟨by simpa using e2, ?_⟩
 rw [e1]
 exact h2.imp (fun h => h.1) fun h => ⟨h.1, h.2.1⟩
theorem DJ.lost {c : LC} (h : DJ P KR KO c) {t : Nat → Question → Nat} (ht : ∀ j, j < c.v.drawn → t j = c.v.tape j) : ¬ PH P (c.m t) := by
 intro hl
 obtain ⟨n, fr, w, h1, h2⟩ := h t ht
 have := hl n fr w h1
 rcases h2 with ⟨h2, _⟩ | ⟨h2, h3, _⟩
 ·exact this.1 h2
 ·exact this.2 h2 h3
theorem DJ.ret {f : FuncId} {t : Array Value} {todo : List Item} {v : World} (h : DJ P KR KO ⟨fmR f t todo, [], v⟩) : KR f t v := by
 obtain ⟨n, fr, w, h1, h2⟩ := h v.tape fun _ _ => rfl
 have e0 : (⟨fmR f t todo, [], v⟩ : LC).m v.tape = lone (fmR f t todo) [sent] v := rfl
 rw [e0] at h1
 cases n with
 | zero =>
  simp only [runN, Stepped.next.injEq] at h1
  obtain ⟨rfl, _, rfl⟩ := FB h1
  rcases h2 with ⟨_, h2⟩ | ⟨h2, _⟩
  ·exact h2
  ·simp [fmR] at h2
 | succ n =>
  exfalso
  have bad : Nk fr → False := fun hb => by
   rcases h2 with ⟨h2, _⟩ | ⟨h2, h3, _⟩
   ·exact hb.1 h2
   ·exact hb.2 h2 h3
  cases hfn : P.funcs[f]? with
  | none =>
   have hs : step P (lone (fmR f t todo) [sent] v) = .next (lone (sent.finish (t.getD 0 undef)) [] v) := step_lone_go (by simp [stepG, unwind, doReturn, fmR, fm, base, Frame.at, hfn])
   simp only [runN, hs] at h1
   exact bad (MM n _ _ h1)
  | some fn' =>
   cases hr : (results fn' t).run P v with
   | ok x w' =>
    have hs : step P (lone (fmR f t todo) [sent] v) = .next (lone (sent.finish x) [] w') := D5 (Ep (b := base f) (a := ⟨t, []⟩) rfl rfl hfn hr)
    simp only [runN, hs] at h1
    exact bad (MM n _ _ h1)
   | halt x w' =>
    have key : ∃ o, (stepG P true (G (fmR f t todo) [sent]) v).bare = .ended o w' := by
     cases x <;> exact ⟨_, by simp [G, stepG, unwind, fmR, fm, base, Frame.at, hfn, hr, GStep.after]; rfl⟩
    obtain ⟨o, ho⟩ := key
    have hs : step P (lone (fmR f t todo) [sent] v) = .ended o w' := step_lone_ended ho
    simp only [runN, hs] at h1
    exact absurd h1 (by simp)
theorem DJ.off {f : FuncId} {t : Array Value} {v : World} (h : DJ P KR KO ⟨fm f t [mkI], [], v⟩) : KO f t v := by
 obtain ⟨n, fr, w, h1, h2⟩ := h v.tape fun _ _ => rfl
 have e0 : (⟨fm f t [mkI], [], v⟩ : LC).m v.tape = lone (fm f t [mkI]) [sent] v := rfl
 rw [e0] at h1
 cases n with
 | zero =>
  simp only [runN, Stepped.next.injEq] at h1
  obtain ⟨rfl, _, rfl⟩ := FB h1
  rcases h2 with ⟨h2, _⟩ | ⟨_, _, h2⟩
  ·simp [fm, Frame.at] at h2
  ·exact h2
 | succ n =>
  exfalso
  have hs : ∃ o, step P (lone (fm f t [mkI]) [sent] v) = .ended o v := ⟨_, step_lone_ended (by simp only [stepG, stepG.exec, fm, Frame.at, mkI]; rfl)⟩
  obtain ⟨o, hs⟩ := hs
  simp only [runN, hs] at h1
  exact absurd h1 (by simp)
end
def JG (P : Program) (K : Value → World → Prop) : FuncId → Array Value → World → Prop := fun f t w => ∃ fn u, P.funcs[f]? = some fn ∧ (results fn t).run P w = .ok u w ∧ K u w
abbrev Good (P : Program) (K : Value → World → Prop) (c : LC) : Prop := DJ P (JG P K) (fun _ _ _ => False) c
section
variable {P : Program} {S : Scope} {main : Bool} {R : Nat → Prop} {Sh : World → Prop} {X : Event → Prop} {Stop : (Nat → Prop) → Goroutine → World → Prop} {KR : FuncId → Array Value → World → Prop} {KO : FuncId → Array Value → World → Prop} {c0 : Frame} {cs0 : List Frame} {π0 : Ren} {M0 : Nat → Prop}
theorem WR.rely {F : FuncId → Prop} {M : Nat → Prop} {π : Ren} {v w w1 : World} (h : WR F π R v w) (hM : ∀ k k', π.to k = some k' → π.own k → M k') (hr : BS M R Sh w w1) : WR F π R v w1 := by
 refine ⟨⟨h.base.1, Nat.le_trans h.base.2 hr.size⟩, fun k k' e => ⟨(h.dom _ _ e).1, Nat.lt_of_lt_of_le (h.dom _ _ e).2 hr.size⟩, fun k k' e eo => ?_, fun k k' e eo => ?_⟩
 ·rw [hr.mine k' (.inl (hM _ _ e eo))]; exact h.mine _ _ e eo
 ·have h2 := h.ro _ _ e eo
  rw [hr.mine k' (.inr h2.1)]; exact h2
inductive Gr (P : Program) (S : Scope) (r0 : Code) : Code → Code → Prop where
 | fin : Gr P S r0 .skip r0
 | seq {a x0 x : Code} : S.code P a = true → Gr P S r0 x0 x → Gr P S r0 (.seq a x0) (.seq a x)
def Lk (P : Program) (S : Scope) (rest : List Item) (s r : List Item) : Prop := (s = [mkI] ∧ r = rest) ∨ (s = [] ∧ r = [] ∧ rest = []) ∨ ∃ x0 x r0, rest = [.code r0] ∧ s = [.code x0, mkI] ∧ r = [.code x] ∧ Gr P S r0 x0 x
theorem Lk.none {rest s r : List Item} (h : Lk P S rest s r) (id : Nat) : exitTo id s = none := by
 rcases h with ⟨rfl, _⟩ | ⟨rfl, _⟩ | ⟨_, _, _, _, rfl, _⟩ <;> rfl
theorem Ll {rest : List Item} (J : World → Prop) (hJ1 : ∀ M w w1, BS M R Sh w w1 → J w → J w1) (hJ2 : ∀ (M : Nat → Prop) w w1, (∀ k, M k → M0 k ∨ π0.base ≤ k) → Ay M w w1 → J w → J w1) (KF : PK P S) (hG : P.globals.size ≤ π0.base) (hV : ∀ g, S.vars g = true → π0.to g = some g)
  (hret : ∀ π f t t' todo' v w M, π0.Le π → AR (VR (SF S) π) t t' → (∃ fn, P.funcs[f]? = some fn) → (∀ t0, (∀ j, j < v.drawn → t0 j = v.tape j) → KR f t (v.tp t0)) → WR (SF S) π R v w → (∀ k k', π.to k = some k' → π.own k → M k') → (∀ k, M0 k → M k) → (∀ k, M k → M0 k ∨ π0.base ≤ k) → J w → Own P main R Sh X Stop M (G (fmR f t' todo') cs0) w)
  (hoff : ∀ π f t t' v w M, π0.Le π → AR (VR (SF S) π) t t' → KO f t v → WR (SF S) π R v w → (∀ k k', π.to k = some k' → π.own k → M k') → (∀ k, M0 k → M k) → (∀ k, M k → M0 k ∨ π0.base ≤ k) → J w → Own P main R Sh X Stop M (G (fm f t' rest) cs0) w) :
  ∀ c, Acc (SH P) c → DJ P KR KO c → ∀ (s r : List Item), Lk P S rest s r → ∀ (π : Ren) (fr' : Frame) (cs' : List Frame) (w : World) (M : Nat → Prop), π0.Le π → PD P S π (BI s c.cs) (BI r c.cs) c.fr fr' → CsR P S π s r c.cs cs' → WR (SF S) π R c.v w →
   (∀ k k', π.to k = some k' → π.own k → M k') → (∀ k, M0 k → M k) → (∀ k, M k → M0 k ∨ π0.base ≤ k) → J w → Own P main R Sh X Stop M (G fr' (cs' ++ cs0)) w := by
 intro c hacc
 induction hacc with
 | intro c hac ih =>
  intro hg s r hlk π fr' cs' w M hle htop hcs hW hM hM0 hMb hJ
  have hgr : ∀ w1 w2 : World, w.heap.size ≤ w1.heap.size → ∀ k, grown M w1.heap.size w2.heap.size k → M0 k ∨ π0.base ≤ k := fun w1 w2 hsz k hk => by
   rcases hk with hk | ⟨hk, _⟩
   ·exact hMb k hk
   ·have := hW.base.2
    rw [hle.base] at this
    exact .inr (by omega)
  by_cases hover : c.over
  ·obtain ⟨fr, cs, v⟩ := c
   obtain ⟨h1, h2⟩ := hover
   dsimp only at h1 h2 htop hcs hW
   subst h1
   cases hcs
   cases htop with
   | run h =>
    generalize hss : BI s [] = ss at h
    generalize hrr : BI r [] = rr at h
    cases h with
    | run ht ho hf =>
     rename_i f t t' todo
     rcases h2 with h2 | ⟨_, h2⟩
     ·simp [fm, Frame.at] at h2
     ·have h2 : todo ++ ss = [mkI] := h2
      have hss : s = ss := hss
      have hrr : r = rr := hrr
      subst hss
      subst hrr
      have htodo : todo = [] := by
       cases todo with
       | nil => rfl
       | cons it k =>
        exfalso
        rw [List.cons_append] at h2
        injection h2 with h3 h4
        have := ho it List.mem_cons_self
        rw [h3] at this
        simp [mkI, Scope.item, Scope.code] at this
      subst htodo
      have h2 : s = [mkI] := h2
      have hr : r = rest := by
       rcases hlk with ⟨_, h⟩ | ⟨h, _⟩ | ⟨_, _, _, _, h, _⟩
       ·exact h
       ·rw [h] at h2; cases h2
       ·rw [h] at h2; cases h2
      subst h2
      subst hr
      exact hoff _ _ _ _ _ _ _ hle ht hg.off hW hM hM0 hMb hJ
   | ret ht hf =>
    rename_i f t t' todo todo'
    refine hret _ _ _ _ _ _ _ _ hle ht hf (fun t0 h0 => ?_) hW hM hM0 hMb hJ
    have hg' : DJ P KR KO ⟨fmR f t todo, [], v.tp t0⟩ := fun t2 h => hg t2 fun j hj => (h j hj).trans (h0 j hj)
    exact hg'.ret
  ·by_cases hspec : c.cs = [] ∧ c.fr.mode = .run ∧ c.fr.todo = s ∧ ∃ x0, s = [.code x0, mkI]
   ·obtain ⟨fr, cs, v⟩ := c
    obtain ⟨h1, h2, h3, x0', h4⟩ := hspec
    dsimp only at h1 h2 h3 htop hcs hW
    subst h1
    subst h4
    cases hcs
    cases htop with
    | ret ht hf => simp [fmR] at h2
    | run h =>
     generalize hss : BI _ [] = ss at h
     generalize hrr : BI r [] = rr at h
     cases h with
     | run ht ho hf =>
      rename_i f t t' todo
      have hss : [.code x0', mkI] = ss := hss
      have hrr : r = rr := hrr
      subst hss
      subst hrr
      have h3 : todo ++ [.code x0', mkI] = [.code x0', mkI] := h3
      have htodo : todo = [] := by
       have := congrArg List.length h3
       simp at this
       exact this
      subst htodo
      rcases hlk with ⟨h, _⟩ | ⟨h, _⟩ | ⟨x0, x, r0, hrest, hs, hr, hgr⟩
      ·cases h
      ·cases h
      ·injection hs with hs _
       injection hs with hs
       subst hs
       subst hr
       cases hgr with
       | fin =>
        have hl : RA P (fm f t [.code .skip, mkI]) [] v (fm f t [mkI]) [] v := ⟨Nat.le_refl _, fun _ _ => rfl, fun t0 _ => D5 stepG_skip⟩
        have hrel : SH P ⟨fm f t [mkI], [], v⟩ ⟨fm f t ([] ++ [.code .skip, mkI]), [], v⟩ := ⟨hl, hover⟩
        exact ih _ hrel (hg.next hrel) [mkI] _ (.inl ⟨rfl, hrest.symm⟩) π _ [] w M hle (.run (.run (todo := []) ht (fun _ h => by simp at h) hf)) .nil hW hM hM0 hMb hJ
       | @seq a x0 x ha hgr =>
        have hl : RA P (fm f t [.code (.seq a x0), mkI]) [] v (fm f t [.code a, .code x0, mkI]) [] v := ⟨Nat.le_refl _, fun _ _ => rfl, fun t0 _ => D5 stepG_seq⟩
        have hrel : SH P ⟨fm f t [.code a, .code x0, mkI], [], v⟩ ⟨fm f t ([] ++ [.code (.seq a x0), mkI]), [], v⟩ := ⟨hl, hover⟩
        refine Own.mk rfl fun w1 hr => ?_
        refine ⟨_, w1, #[], stepG_seq, Ay.refl _ _, fun e he => by simp at he, ?_⟩
        rw [BU]
        exact ih _ hrel (hg.next hrel) [.code x0, mkI] [.code x] (.inr (.inr ⟨x0, x, r0, hrest, rfl, rfl, hgr⟩)) π (fm f t' [.code a, .code x]) [] w1 M hle (.run (.run (todo := [.code a]) ht (fun it hit => by
         rw [List.mem_singleton] at hit
         subst hit
         exact ha) hf)) .nil (hW.rely hM hr) hM hM0 hMb (hJ1 _ _ _ hr hJ)
   have hso : ∀ w1, BS M R Sh w w1 → CP P S s r main R M cs0 π c.fr c.cs c.v fr' cs' w1 := by
    intro w1 hr
    have hW1 := hW.rely hM hr
    have hG' : P.globals.size ≤ π.base := by rw [hle.base]; exact hG
    have hV' : ∀ g, S.vars g = true → π.to g = some g := fun g hg => hle.to _ _ (hV g hg)
    obtain ⟨fr, cs, v⟩ := c
    dsimp only at htop hcs hW1 hover ⊢
    cases htop with
    | run h =>
     generalize hss : BI s cs = ss at h
     generalize hrr : BI r cs = rr at h
     cases h with
     | run ht ho hf =>
      rename_i f t t' todo
      subst hss
      subst hrr
      refine TB KF hG' hV' ht ho hf hlk.none (fun e => ?_) hcs hW1 hM
      subst e
      rcases hlk with hsr | hsr | ⟨x0, x, r0, _, hs, _⟩
      ·refine .inl fun e => hover ⟨rfl, .inr ⟨rfl, ?_⟩⟩
       subst e
       exact hsr.1
      ·exact .inr ⟨hsr.1, hsr.2.1⟩
      ·refine .inl fun e => hspec ⟨rfl, rfl, ?_, x0, hs⟩
       subst e
       rfl
    | ret ht hf =>
     cases hcs with
     | nil => exact absurd ⟨rfl, .inl rfl⟩ hover
     | cons hc hcs => exact step_ret ht hf hc hcs hW1 hM
   have hst : (G fr' (cs' ++ cs0)).status = .running := rfl
   refine Own.mk hst fun w1 hr => ?_
   rcases hso w1 hr with ⟨t, h1, h2⟩ | ⟨fr1, cs1, v1, h1, π', fr1', cs1', w2, es, h2, h3, h4, h5, h6, h7, h8, h9⟩
   ·exact absurd h2 (hg.lost h1)
   ·have hrel : SH P ⟨fr1, cs1, v1⟩ c := ⟨h1, hover⟩
    exact ⟨_, w2, es, h2, h7, fun e he => .inl (h8 e he), ih ⟨fr1, cs1, v1⟩ hrel (hg.next hrel) s r hlk π' fr1' cs1' w2 _ (hle.trans h3) h4 h5 h6 h9 (fun k hk => .inl (hM0 k hk)) (hgr _ _ hr.size) (hJ2 M _ _ hMb h7 (hJ1 _ _ _ hr hJ))⟩
theorem MG {K : Value → World → Prop} {π : Ren} {f : FuncId} {t t' : Array Value} {todo' : List Item} {v w : World} {M : Nat → Prop} (ht : AR (VR (SF S) π) t t') (hK : ∀ t0, (∀ j, j < v.drawn → t0 j = v.tape j) → JG P K f t (v.tp t0)) (hW : WR (SF S) π R v w) (hM : ∀ k k', π.to k = some k' → π.own k → M k')
  (hf : ∃ fn, P.funcs[f]? = some fn) (h : ∀ π' u u' v' w' M', π.Le π' → VR (SF S) π' u u' → K u v' → WR (SF S) π' R v' w' → (∀ k k', π'.to k = some k' → π'.own k → M' k') → (∀ k, M k → M' k) → (∀ k, M' k → M k ∨ w.heap.size ≤ k) → (∃ w1, BS M R Sh w w1 ∧ Ay M w1 w') → Own P main R Sh X Stop M' (G (c0.finish u') cs0) w') : Own P main R Sh X Stop M (G (fmR f t' todo') (c0 :: cs0)) w := by
 obtain ⟨fn, hfn⟩ := hf
 refine Own.mk rfl fun w1 hr => ?_
 have hW1 := hW.rely hM hr
 obtain ⟨t0, g1, g2⟩ := SR.run (P := P) (KI fn ht) (es := #[]) hW1 hM
 obtain ⟨fn', u, hfn', e2, hKu⟩ := hK t0 g1
 rw [hfn] at hfn'
 injection hfn' with hfn'
 subst hfn'
 rcases g2 with ⟨x, v1, h3, h4⟩ | ⟨a, v1, h3, h4, h5, h6, π', b, w2, es, h7, h8, h9, h10, h11, h12, h13, h14⟩
 ·rw [e2] at h3; cases h3
 ·rw [e2] at h3
  injection h3 with q1 q2
  subst q1; subst q2
  obtain ⟨rfl, h9⟩ := h9
  have hrun : (results fn t').run P w1 = .ok b w2 := by rw [← Sem.runT_fst P _ w1 #[], h7]
  refine ⟨_, w2, _, Ep (b := base f) (a := ⟨t', []⟩) rfl rfl hfn hrun, h11, fun e he => ?_, ?_⟩
  ·have := mem_seen he
   have e4 : (results fn t').events P w1 #[] = es := by
    show ((results fn t').runT P w1 #[]).2 = es
    rw [h7]; simp
   rw [e4] at this
   exact .inl (h12 e this)
  ·exact h _ _ _ _ _ _ h8 h9 hKu h10 h13 (fun k hk => .inl hk) (fun k hk => hk.imp id fun h => Nat.le_trans hr.size h.1) ⟨w1, hr, h11⟩
end
theorem LZ {P : Program} {f : FuncId} {fn : Func} {c : Code} {args : Array Value} {v : World} {K : Value → World → Prop} (hf : P.funcs[f]? = some fn) (hb : fn.body = some c)
  (h : ∀ t, Calls P f args (v.tp t) fun e w' => ∃ u, e = .returned u ∧ K u w') : Good P K ⟨fm f (args ++ Array.replicate (fn.ntmps - args.size) undef) [.code c], [], v⟩ := by
 intro t _
 obtain ⟨e, w', fr, ⟨u, rfl, hK⟩, ⟨n, hn⟩, hfr, hm, hd, hk, fn', hfn, hr⟩ := h t [sent]
 rw [enter_at args hf hb] at hn
 exact ⟨n, fr, w', hn, .inl ⟨hm, fn', u, hfn, hr, hK⟩⟩
open Classical in
noncomputable def DT (D O : Nat → Prop) (b : Nat) : Ren where
 to k := if D k then some k else none
 own k := D k ∧ O k
 base := b
 inj := fun x y c hx hy => by
  split at hx
  ·split at hy
   ·cases hx; cases hy; rfl
   ·cases hy
  ·cases hx
 low := fun x c hx _ => by
  split at hx
  ·cases hx; rfl
  ·cases hx
noncomputable abbrev idr (D : Nat → Prop) (b : Nat) : Ren := DT D (fun _ => False) b
theorem Ns (F : FuncId → Prop) (π : Ren) : ∀ (n : Nat) (u : Value), SizeOf.sizeOf u < n → ∃ x, VR F π x u
 | 0, u, h => absurd h (Nat.not_lt_zero _)
 | n + 1, u, h => by
  have arr : ∀ c : Array Value, (∀ i (hi : i < c.size), SizeOf.sizeOf c[i] < n) → ∃ c0 : Array Value, c0.size = c.size ∧ ∀ (i : Nat) x y, c0[i]? = some x → c[i]? = some y → VR F π x y := by
   intro c hc
   refine ⟨Array.ofFn fun i : Fin c.size => Classical.choose (Ns F π n c[i] (hc i.1 i.2)), by simp, fun i x y hx hy => ?_⟩
   obtain ⟨hi, rfl⟩ := Array.getElem?_eq_some_iff.1 hy
   rw [Array.getElem?_eq_getElem (by simpa using hi)] at hx
   simp only [Array.getElem_ofFn, Option.some.injEq] at hx
   subst hx
   exact Classical.choose_spec (Ns F π n c[i] (hc i hi))
  cases u with
  | bool b => exact ⟨_, .bool b⟩
  | agg c =>
   obtain ⟨c0, h1, h2⟩ := arr c fun i hi => by
    have := Array.sizeOf_getElem c i hi
    simp only [Value.agg.sizeOf_spec] at h
    omega
   exact ⟨_, .agg h1 h2⟩
  | tuple c =>
   obtain ⟨c0, h1, h2⟩ := arr c fun i hi => by
    have := Array.sizeOf_getElem c i hi
    simp only [Value.tuple.sizeOf_spec] at h
    omega
   exact ⟨_, .tuple h1 h2⟩
  | nilIface => exact ⟨_, .nilIface⟩
  | nilFunc => exact ⟨_, .nilFunc⟩
  | func fn a c => cases fn with
   | method n => exact ⟨.func (.method n) #[.nilIface] #[], .meth⟩
   | _ => exact ⟨_, .hole (fun _ => by simp) (fun _ => by simp) (fun _ => by simp) ⟨by simp, by simp, by simp, by simp⟩⟩
  | pointer a => cases a with
   | none => exact ⟨_, .ptr0⟩
   | some a => exact ⟨_, .hole (fun _ => by simp) (fun _ => by simp) (fun _ => by simp) ⟨by simp, by simp, by simp, by simp⟩⟩
  | _ => exact ⟨_, .hole (fun _ => by simp) (fun _ => by simp) (fun _ => by simp) ⟨by simp, by simp, by simp, by simp⟩⟩
open Classical in
noncomputable def vw (F : FuncId → Prop) (D : Nat → Prop) (u : Value) : Value := if VR F (idr D 0) u u then u else Classical.choose (Ns F (idr D 0) (SizeOf.sizeOf u + 1) u (Nat.lt_succ_self _))
theorem Yd (F : FuncId → Prop) (D : Nat → Prop) (u : Value) : VR F (idr D 0) (vw F D u) u := by
 unfold vw
 split
 ·assumption
 ·exact Classical.choose_spec (Ns F (idr D 0) (SizeOf.sizeOf u + 1) u (Nat.lt_succ_self _))
theorem Nq {F : FuncId → Prop} {D : Nat → Prop} {u : Value} (h : VR F (idr D 0) u u) : vw F D u = u := by
 unfold vw
 rw [if_pos h]
noncomputable def full (F : FuncId → Prop) (D : Nat → Prop) : Obj → Obj
 | .cells c e f => .cells (c.map (vw F D)) e (0, c.size + f.2)
 | o => o
noncomputable def keep (F : FuncId → Prop) (D : Nat → Prop) : Obj → Obj
 | .cells c e f => .cells (c.map (vw F D)) e f
 | o => o
open Classical in
noncomputable def En (F : FuncId → Prop) (D O : Nat → Prop) (w : World) : World := { w with heap := w.heap.mapIdx fun k o => if D k then (if O k then keep F D o else full F D o) else .cells #[] 0 (0, 0) }
noncomputable abbrev idv (F : FuncId → Prop) (D : Nat → Prop) (w : World) : World := En F D (fun _ => False) w
section
variable {D O R : Nat → Prop} {F : FuncId → Prop} {w : World} {b : Nat}
theorem Hq {k k' : Nat} (h : (DT D O b).to k = some k') : k' = k ∧ D k := by
 unfold DT at h
 dsimp only at h
 split at h
 ·cases h; exact ⟨rfl, by assumption⟩
 ·cases h
theorem FR {k : Nat} (h : D k) : (DT D O b).to k = some k := by
 unfold DT
 dsimp only
 rw [if_pos h]
theorem Gj : (En F D O w).heap.size = w.heap.size := by simp [En]
open Classical in
theorem Kh {k : Nat} (h : D k) : (En F D O w).heap[k]? = (w.heap[k]?).map fun o => if O k then keep F D o else full F D o := by
 unfold En
 dsimp only
 rw [Array.getElem?_mapIdx]
 simp only [h, if_true]
theorem IK {a : Addr} {u : Value} (h : D a.block) (hu : w.cell? a = some u) (hs : VR F (idr D 0) u u) : (En F D O w).cell? a = some u := by
 unfold World.cell? at hu ⊢
 rw [Kh h]
 cases hb : w.heap[a.block]? with
 | none => rw [hb] at hu; cases hu
 | some o =>
  rw [hb] at hu
  cases o with
  | cells c e f =>
   have key : ∀ f', (match some (Obj.cells (c.map (vw F D)) e f') with | some (.cells c _ _) => if a.spot.isSome then none else c[a.off]? | _ => none) = some u := fun f' => by
    dsimp only at hu ⊢
    split at hu
    ·cases hu
    ·next hsp =>
     rw [if_neg hsp, Array.getElem?_map, hu]
     simp only [Option.map_some, Nq hs]
   by_cases hO : O a.block
   ·rw [Option.map_some, if_pos hO]; exact key f
   ·rw [Option.map_some, if_neg hO]; exact key (0, c.size + f.2)
  | _ => cases hu
theorem XE {k : Nat} {c : Array Value} {e : TypeId} {f : Nat × Nat} (h : D k) (hO : O k) (hb : w.heap[k]? = some (.cells c e f)) (hs : ∀ u ∈ c, VR F (idr D 0) u u) : (En F D O w).heap[k]? = some (.cells c e f) := by
 rw [Kh h, hb]
 simp only [Option.map_some, if_pos hO, keep]
 congr 2
 apply Array.ext
 ·simp
 ·intro i h1 h2
  simp only [Array.getElem_map]
  exact Nq (hs _ (Array.getElem_mem _))
theorem Zd (t : Nat → Question → Nat) : (En F D O w).tp t = En F D O (w.tp t) := rfl
structure E5 (R M : Nat → Prop) (w : World) (D O : Nat → Prop) : Prop where
 sub : ∀ k, D k → ¬ O k → R k
 own : ∀ k, D k → O k → M k
 row : ∀ k, D k → ∃ c e f, w.heap[k]? = some (.cells c e f)
structure Closed (R : Nat → Prop) (w : World) (D : Nat → Prop) : Prop where
 sub : ∀ k, D k → R k
 row : ∀ k, D k → ∃ c e f, w.heap[k]? = some (.cells c e f)
theorem Closed.o {M : Nat → Prop} (h : Closed R w D) : E5 R M w D (fun _ => False) := ⟨fun k hk _ => h.sub k hk, fun k _ h => h.elim, h.row⟩
theorem ZP {π π' : Ren} {x y : Value} (h : VR F π x y) (k : ∀ a c, π.to a = some c → π'.to a = some c) : VR F π' x y := by
 induction h with
 | bool b => exact .bool b
 | int a b => exact .int a b
 | string s => exact .string s
 | ptr0 => exact .ptr0
 | ptr h => exact .ptr ⟨k _ _ h.1, h.2⟩
 | slice0 l c => exact .slice0 l c
 | slice l c h => exact .slice l c ⟨k _ _ h.1, h.2⟩
 | map0 => exact .map0
 | map h => exact .map (k _ _ h)
 | chan0 => exact .chan0
 | chan h => exact .chan (k _ _ h)
 | func hf h1 _ h3 _ i1 i2 => exact .func hf h1 i1 h3 i2
 | nilFunc => exact .nilFunc
 | iface t _ ih => exact .iface t ih
 | nilIface => exact .nilIface
 | agg h _ ih => exact .agg h ih
 | tuple h _ ih => exact .tuple h ih
 | hole h1 h2 h3 h4 => exact .hole h1 h2 h3 h4
 | meth => exact .meth
theorem Nr {x y : Value} (h : VR F (idr D 0) x y) (b : Nat) : VR F (DT D O b) x y :=
 ZP h fun k k' e => by obtain ⟨rfl, hd⟩ := Hq e; exact FR hd
theorem AR.self {α : Type} {r : α → α → Prop} {c : Array α} (h : ∀ u ∈ c, r u u) : AR r c c :=
 ⟨rfl, fun i x y hx hy => by rw [hx] at hy; cases hy; exact h x (Array.mem_of_getElem? hx)⟩
theorem E5.wr {M : Nat → Prop} (h : E5 R M w D O) : WR F (DT D O w.heap.size) R (En F D O w) w := by
 have har : ∀ c : Array Value, AR (VR F (DT D O w.heap.size)) (c.map (vw F D)) c := fun c => ⟨by simp, fun i x y hx hy => by
  rw [Array.getElem?_map, hy] at hx
  simp only [Option.map_some, Option.some.injEq] at hx
  subst hx
  exact Nr (Yd F D y) _⟩
 refine ⟨⟨by rw [Gj]; exact Nat.le_refl _, Nat.le_refl _⟩, fun k k' e => ?_, fun k k' e eo => ?_, fun k k' e eo => ?_⟩
 ·obtain ⟨rfl, hd⟩ := Hq e
  obtain ⟨c, t, f, hc⟩ := h.row _ hd
  have hlt : k' < w.heap.size := (Array.getElem?_eq_some_iff.1 hc).1
  exact ⟨by rw [Gj]; exact hlt, hlt⟩
 ·obtain ⟨rfl, hd⟩ := Hq e
  obtain ⟨c, t, f, hc⟩ := h.row _ hd
  have hO : O k' := eo.2
  refine ⟨_, _, by rw [Kh hd, hc, Option.map_some, if_pos hO], hc, ?_⟩
  exact .cells t f (har c)
 ·obtain ⟨rfl, hd⟩ := Hq e
  obtain ⟨c, t, f, hc⟩ := h.row _ hd
  have hO : ¬ O k' := fun hO => eo ⟨hd, hO⟩
  refine ⟨h.sub _ hd hO, c.map (vw F D), c, t, f, c.size + f.2, ?_, hc, har c, by simp, by omega⟩
  rw [Kh hd, hc, Option.map_some, if_neg hO]; rfl
theorem Closed.rely {M : Nat → Prop} {Sh : World → Prop} {w1 : World} (h : Closed R w D) (hr : BS M R Sh w w1) : Closed R w1 D :=
 ⟨h.sub, fun k hk => by rw [hr.mine k (.inr (h.sub k hk))]; exact h.row k hk⟩
end
section
variable {P : Program} {S : Scope} {main : Bool} {R : Nat → Prop} {Sh : World → Prop} {X : Event → Prop} {Stop : (Nat → Prop) → Goroutine → World → Prop} {K : Value → World → Prop} {c0 : Frame} {cs0 : List Frame} {D O M : Nat → Prop} {w : World}
noncomputable def vwT (F : FuncId → Prop) (D : Nat → Prop) (T : Array Value) : Array Value := T.map (vw F D)
theorem SX (F : FuncId → Prop) (D : Nat → Prop) (T : Array Value) : AR (VR F (idr D 0)) (vwT F D T) T := ⟨by simp [vwT], fun i x y hx hy => by
 unfold vwT at hx
 rw [Array.getElem?_map, hy] at hx
 simp only [Option.map_some, Option.some.injEq] at hx
 subst hx
 exact Yd F D y⟩
theorem Gx {F : FuncId → Prop} {D : Nat → Prop} {T : Array Value} {i : Nat} {u : Value} (h : T[i]? = some u) (hs : VR F (idr D 0) u u) : (vwT F D T).getD i undef = u := by
 unfold vwT
 rw [Array.getD_eq_getD_getElem?, Array.getElem?_map, h]
 simp [Nq hs]
theorem Sa {KR KO : FuncId → Array Value → World → Prop} {r : List Item} (J : World → Prop) (hJ1 : ∀ M w w1, BS M R Sh w w1 → J w → J w1) (hJ2 : ∀ (M' : Nat → Prop) w1 w2, (∀ k, M' k → M k ∨ w.heap.size ≤ k) → Ay M' w1 w2 → J w1 → J w2) (hJ : J w) (KF : PK P S) {f : FuncId} {fn : Func} {T0 T : Array Value} {items : List Item} (hf : P.funcs[f]? = some fn) (hi : Ct P S items)
  (hG : P.globals.size ≤ w.heap.size) (hV : ∀ g, S.vars g = true → D g) (hC : E5 R M w D O) (ha : AR (VR (SF S) (idr D 0)) T0 T)
  (hg : DJ P KR KO ⟨fm f T0 (items ++ [mkI]), [], En (SF S) D O w⟩)
  (hret : ∀ π f t t' todo' v w1 M', (DT D O w.heap.size).Le π → AR (VR (SF S) π) t t' → (∃ fn, P.funcs[f]? = some fn) → (∀ t0, (∀ j, j < v.drawn → t0 j = v.tape j) → KR f t (v.tp t0)) → WR (SF S) π R v w1 → (∀ k k', π.to k = some k' → π.own k → M' k') → (∀ k, M k → M' k) → (∀ k, M' k → M k ∨ w.heap.size ≤ k) → J w1 → Own P main R Sh X Stop M' (G (fmR f t' todo') cs0) w1)
  (hoff : ∀ π f t t' v w1 M', (DT D O w.heap.size).Le π → AR (VR (SF S) π) t t' → KO f t v → WR (SF S) π R v w1 → (∀ k k', π.to k = some k' → π.own k → M' k') → (∀ k, M k → M' k) → (∀ k, M' k → M k ∨ w.heap.size ≤ k) → J w1 → Own P main R Sh X Stop M' (G (fm f t' r) cs0) w1) :
  Own P main R Sh X Stop M (G (fm f T (items ++ r)) cs0) w := by
 have := Ll (KR := KR) (KO := KO) (rest := r) (π0 := DT D O w.heap.size) (M0 := M) (cs0 := cs0) J hJ1 hJ2 KF hG (fun g hg => FR (hV g hg)) hret hoff _ hg.acc hg [mkI] r (.inl ⟨rfl, rfl⟩) (DT D O w.heap.size) (fm f T (items ++ r)) [] w M (Ren.Le.refl _)
  (.run (.run (ha.mono fun _ _ h => Nr h _) hi ⟨fn, hf⟩)) .nil hC.wr (fun k k' e eo => by
   obtain ⟨rfl, hd⟩ := Hq e
   exact hC.own _ hd eo.2) (fun k hk => hk) (fun k hk => .inl hk) hJ
 exact this
theorem Rf {KR KO : FuncId → Array Value → World → Prop} {r0 x0 x : Code} (J : World → Prop) (hJ1 : ∀ M w w1, BS M R Sh w w1 → J w → J w1) (hJ2 : ∀ (M' : Nat → Prop) w1 w2, (∀ k, M' k → M k ∨ w.heap.size ≤ k) → Ay M' w1 w2 → J w1 → J w2) (hJ : J w) (KF : PK P S) {f : FuncId} {fn : Func} {T0 T : Array Value} (hf : P.funcs[f]? = some fn) (hgr : Gr P S r0 x0 x)
  (hG : P.globals.size ≤ w.heap.size) (hV : ∀ g, S.vars g = true → D g) (hC : E5 R M w D O) (ha : AR (VR (SF S) (idr D 0)) T0 T)
  (hg : DJ P KR KO ⟨fm f T0 ([.code x0] ++ [mkI]), [], En (SF S) D O w⟩)
  (hret : ∀ π f t t' todo' v w1 M', (DT D O w.heap.size).Le π → AR (VR (SF S) π) t t' → (∃ fn, P.funcs[f]? = some fn) → (∀ t0, (∀ j, j < v.drawn → t0 j = v.tape j) → KR f t (v.tp t0)) → WR (SF S) π R v w1 → (∀ k k', π.to k = some k' → π.own k → M' k') → (∀ k, M k → M' k) → (∀ k, M' k → M k ∨ w.heap.size ≤ k) → J w1 → Own P main R Sh X Stop M' (G (fmR f t' todo') cs0) w1)
  (hoff : ∀ π f t t' v w1 M', (DT D O w.heap.size).Le π → AR (VR (SF S) π) t t' → KO f t v → WR (SF S) π R v w1 → (∀ k k', π.to k = some k' → π.own k → M' k') → (∀ k, M k → M' k) → (∀ k, M' k → M k ∨ w.heap.size ≤ k) → J w1 → Own P main R Sh X Stop M' (G (fm f t' [.code r0]) cs0) w1) :
  Own P main R Sh X Stop M (G (fm f T [.code x]) cs0) w := by
 have := Ll (KR := KR) (KO := KO) (rest := [.code r0]) (π0 := DT D O w.heap.size) (M0 := M) (cs0 := cs0) J hJ1 hJ2 KF hG (fun g hg => FR (hV g hg)) hret hoff _ hg.acc hg [.code x0, mkI] [.code x] (.inr (.inr ⟨x0, x, r0, rfl, rfl, rfl, hgr⟩)) (DT D O w.heap.size) (fm f T [.code x]) [] w M (Ren.Le.refl _)
  (.run (.run (todo := []) (ha.mono fun _ _ h => Nr h _) (fun _ h => by simp at h) ⟨fn, hf⟩)) .nil hC.wr (fun k k' e eo => by
   obtain ⟨rfl, hd⟩ := Hq e
   exact hC.own _ hd eo.2) (fun k hk => hk) (fun k hk => .inl hk) hJ
 exact this
theorem MF (J : World → Prop) (hJ1 : ∀ M w w1, BS M R Sh w w1 → J w → J w1) (hJ2 : ∀ (M' : Nat → Prop) w1 w2, (∀ k, M' k → M k ∨ w.heap.size ≤ k) → Ay M' w1 w2 → J w1 → J w2) (hJ : J w) (KF : PK P S) {f : FuncId} {fn : Func} {T0 T : Array Value} {items : List Item} (hf : P.funcs[f]? = some fn) (hi : Ct P S items)
  (hG : P.globals.size ≤ w.heap.size) (hV : ∀ g, S.vars g = true → D g) (hC : E5 R M w D O) (ha : AR (VR (SF S) (idr D 0)) T0 T)
  (hg : Good P K ⟨fm f T0 items, [], En (SF S) D O w⟩)
  (hstop : ∀ π u u' v w1 M', (DT D O w.heap.size).Le π → VR (SF S) π u u' → K u v → WR (SF S) π R v w1 → (∀ k k', π.to k = some k' → π.own k → M' k') → (∀ k, M k → M' k) → (∀ k, M' k → M k ∨ w.heap.size ≤ k) → J w1 → Own P main R Sh X Stop M' (G (c0.finish u') cs0) w1) :
  Own P main R Sh X Stop M (G (fm f T items) (c0 :: cs0)) w := by
 have := Ll (KR := JG P K) (KO := fun _ _ _ => False) (rest := []) (π0 := DT D O w.heap.size) (M0 := M) (cs0 := c0 :: cs0) (Stop := Stop) (main := main) (Sh := Sh) (X := X) J hJ1 hJ2 KF hG (fun g hg => FR (hV g hg))
  (fun π f t t' todo' v w1 M' hle ht hf hK hW hown hM0 hMb hJ' => MG ht hK hW hown hf fun π' u u' v' w2 M2 hle' hu hKu hW' hown' hM2 hMb' ⟨w3, hr3, hs3⟩ => ?_) (fun _ _ _ _ _ _ _ _ _ h => h.elim) _ hg.acc hg [] [] (.inr (.inl ⟨rfl, rfl, rfl⟩)) (DT D O w.heap.size) (fm f T items) [] w M (Ren.Le.refl _)
  (.run (by
   have := FrR.run (P := P) (S := S) (π := DT D O w.heap.size) (s := []) (r := []) (todo := items) (ha.mono (S := VR (SF S) (DT D O w.heap.size)) fun _ _ h => Nr h _) hi ⟨fn, hf⟩
   rw [List.append_nil] at this
   exact this)) .nil hC.wr (fun k k' e eo => by
   obtain ⟨rfl, hd⟩ := Hq e
   exact hC.own _ hd eo.2) (fun k hk => hk) (fun k hk => .inl hk) hJ
 ·exact this
 ·have hb : ∀ k, M' k → M k ∨ w.heap.size ≤ k := hMb
  have hsz : w.heap.size ≤ w1.heap.size := by
   have := hW.base.2
   rw [hle.base] at this
   exact this
  have hMM : ∀ k, M2 k → M k ∨ w.heap.size ≤ k := fun k hk => (hMb' k hk).elim (hb k) fun h => .inr (Nat.le_trans hsz h)
  exact hstop π' u u' v' w2 M2 (hle.trans hle') hu hKu hW' hown' (fun k hk => hM2 k (hM0 k hk)) hMM (hJ2 _ w3 w2 hb hs3 (hJ1 _ _ _ hr3 hJ'))
theorem Sc (J : World → Prop) (hJ1 : ∀ M w w1, BS M R Sh w w1 → J w → J w1) (hJ2 : ∀ (M' : Nat → Prop) w1 w2, (∀ k, M' k → M k ∨ w.heap.size ≤ k) → Ay M' w1 w2 → J w1 → J w2) (hJ : J w) (KF : PK P S) {f : FuncId} {fn : Func} {c : Code} {args : Array Value} (hf : P.funcs[f]? = some fn) (hb : fn.body = some c) (hS : S.fns f = true)
  (hG : P.globals.size ≤ w.heap.size) (hV : ∀ g, S.vars g = true → D g) (hC : E5 R M w D O) (ha : ∀ u ∈ args, VR (SF S) (idr D 0) u u)
  (hcall : ∀ t, Calls P f args (En (SF S) D O (w.tp t)) fun e w' => ∃ u, e = .returned u ∧ K u w')
  (hstop : ∀ π u u' v w1 M', (DT D O w.heap.size).Le π → VR (SF S) π u u' → K u v → WR (SF S) π R v w1 → (∀ k k', π.to k = some k' → π.own k → M' k') → (∀ k, M k → M' k) → (∀ k, M' k → M k ∨ w.heap.size ≤ k) → J w1 → Own P main R Sh X Stop M' (G (c0.finish u') cs0) w1) :
  Own P main R Sh X Stop M (G ((base f).at { tmps := args ++ Array.replicate (fn.ntmps - args.size) undef, defers := [] } [.code c]) (c0 :: cs0)) w := by
 have hg : Good P K ⟨fm f (args ++ Array.replicate (fn.ntmps - args.size) undef) [.code c], [], En (SF S) D O w⟩ := LZ hf hb fun t => by rw [Zd]; exact hcall t
 refine MF (K := K) J hJ1 hJ2 hJ KF hf (fun it hit => ?_) hG hV hC (AR.self fun u hu => ?_) hg hstop
 ·simp only [List.mem_cons, List.not_mem_nil, or_false] at hit
  subst hit
  exact KF.code f fn c hS hf hb
 ·rcases Array.mem_append.1 hu with h | h
  ·exact ha u h
  ·rw [(Array.mem_replicate.1 h).2]; exact VR.undef
theorem UB (J : World → Prop) (hJ1 : ∀ M w w1, BS M R Sh w w1 → J w → J w1) (hJ2 : ∀ (M' : Nat → Prop) w1 w2, (∀ k, M' k → M k ∨ w.heap.size ≤ k) → Ay M' w1 w2 → J w1 → J w2) (hJ : J w) (KF : PK P S) {f : FuncId} {fn : Func} {c : Code} {args : Array Value} (hf : P.funcs[f]? = some fn) (hb : fn.body = some c) (hS : S.fns f = true)
  (hG : P.globals.size ≤ w.heap.size) (hV : ∀ g, S.vars g = true → D g) (hC : Closed R w D) (ha : ∀ u ∈ args, VR (SF S) (idr D 0) u u)
  (hcall : ∀ t, Calls P f args (idv (SF S) D (w.tp t)) fun e w' => ∃ u, e = .returned u ∧ K u w')
  (hstop : ∀ π u u' v w1 M', (idr D w.heap.size).Le π → VR (SF S) π u u' → K u v → WR (SF S) π R v w1 → (∀ k k', π.to k = some k' → π.own k → M' k') → (∀ k, M k → M' k) → (∀ k, M' k → M k ∨ w.heap.size ≤ k) → J w1 → Own P main R Sh X Stop M' (G (c0.finish u') cs0) w1) :
  Own P main R Sh X Stop M (G ((base f).at { tmps := args ++ Array.replicate (fn.ntmps - args.size) undef, defers := [] } [.code c]) (c0 :: cs0)) w :=
 Sc J hJ1 hJ2 hJ KF hf hb hS hG hV hC.o ha hcall hstop
end
def unl (l : List Bool) : Nat := (l.filter (! ·)).length
theorem QY : ∀ (l : List Bool) (i : Nat), l[i]? = some false → unl (l.set i true) + 1 = unl l
 | [], i, h => by simp at h
 | b :: l, 0, h => by
  simp only [List.getElem?_cons_zero, Option.some.injEq] at h
  subst h
  simp [unl]
 | b :: l, i + 1, h => by
  have := QY l i (by simpa using h)
  unfold unl at this ⊢
  cases b <;> simp_all
theorem Om : ∀ (l : List Bool), unl l = 0 → ∀ i, l.getD i true = true
 | [], _, i => by simp
 | b :: l, h, i => by
  unfold unl at h
  cases b with
  | false => simp at h
  | true =>
   cases i with
   | zero => simp
   | succ i => simpa using Om l (by simpa [unl] using h) i
theorem Ql {md : Region.Mode} {ops : Array Oper} {listed : Array Bool} (h : unl listed.toList = 0) : Region.ready md ops listed = [] := by
 apply List.eq_nil_iff_forall_not_mem.2
 intro j hj
 have := (mem_ready.1 hj).1
 have h2 := Om listed.toList h j
 rw [Array.getD_eq_getD_getElem?] at this
 rw [List.getD_eq_getElem?_getD, Array.getElem?_toList] at h2
 rw [h2] at this
 cases this
theorem R5 {md : Region.Mode} {ops : Array Oper} {listed : Array Bool} {i : Nat} (h : i ∈ Region.ready md ops listed) : unl (listed.setIfInBounds i true).toList + 1 = unl listed.toList := by
 have := (mem_ready.1 h).1
 rw [Array.toList_setIfInBounds]
 refine QY _ _ ?_
 rw [Array.getElem?_toList]
 rw [Array.getD_eq_getD_getElem?] at this
 cases hx : listed[i]? with
 | none => rw [hx] at this; cases this
 | some b => rw [hx] at this; simp only [Option.getD_some] at this; rw [this]
section
variable {P : Program} {main : Bool} {R : Nat → Prop} {Sh : World → Prop} {X : Event → Prop} {Stop : (Nat → Prop) → Goroutine → World → Prop} {b : Frame} {ops : Array Oper} {k : List Item} {cs : List Frame}
theorem R4 (I : Array Bool → Act → (Nat → Prop) → World → Prop) (C : Array Bool → List Nat → Act → (Nat → Prop) → World → Prop)
  (hend : ∀ listed a M w, Region.ready .any ops listed = [] → I listed a M w → C listed [] a M w)
  (hstep : ∀ listed a M w i rest, i ∈ Region.ready .any ops listed → I listed a M w → (∀ a' M' w', I (listed.setIfInBounds i true) a' M' w' → C (listed.setIfInBounds i true) rest a' M' w') → C listed (i :: rest) a M w) :
  ∀ (fuel t : Nat) (listed : Array Bool) (a : Act) (M : Nat → Prop) (w : World), unl listed.toList ≤ fuel → I listed a M w → C listed (Region.linearise.go .any ops fuel t listed []) a M w := by
 intro fuel
 induction fuel with
 | zero =>
  intro t listed a M w hu hI
  exact hend listed a M w (Ql (by omega)) hI
 | succ fuel ih =>
  intro t listed a M w hu hI
  have e : Region.linearise.go .any ops (fuel + 1) t listed [] = match (Region.ready .any ops listed)[t % (Region.ready .any ops listed).length]? with
    | some i => Region.linearise.go .any ops fuel (t / (Region.ready .any ops listed).length) (listed.setIfInBounds i true) [i]
    | none => [] := rfl
  rw [e]
  cases hr : (Region.ready .any ops listed)[t % (Region.ready .any ops listed).length]? with
  | none =>
   refine hend listed a M w ?_ hI
   cases hl : Region.ready .any ops listed with
   | nil => rfl
   | cons x l =>
    rw [hl] at hr
    have := Nat.mod_lt t (show 0 < (x :: l).length by simp)
    rw [List.getElem?_eq_none_iff] at hr
    omega
  | some i =>
   have hi : i ∈ Region.ready .any ops listed := List.mem_of_getElem? hr
   dsimp only
   rw [linearise_go_acc]
   refine hstep listed a M w i _ hi hI fun a' M' w' hI' => ?_
   have := R5 hi
   exact ih _ _ a' M' w' (by omega) hI'
theorem Sb (hm : P.follows .mixedOrders = true) {id : Nat} {a : Act} {M : Nat → Prop} {w : World}
  (h : ∀ w1, BS M R Sh w w1 → ∀ t w2, (w2 = w1 ∨ w2 = w1.drew) → Own P main R Sh X Stop M (G (b.at a (.inRegion ops (Region.linearise.go .any ops ops.size t (Array.replicate ops.size false) []) :: k)) cs) w2) :
  Own P main R Sh X Stop M (G (b.at a (.code (.region id ops true) :: k)) cs) w := by
 refine Own.mk rfl fun w1 hr => ?_
 have hs : ∀ t, Region.schedule (P.follows .mixedOrders) ops t = Region.linearise.go .any ops ops.size t (Array.replicate ops.size false) [] := fun t => by
  unfold Region.schedule Region.linearise
  rw [hm]; rfl
 obtain ⟨t, w2, hc, hw2⟩ : ∃ t w2, (choose (.order b.fn id)).run P w1 = .ok t w2 ∧ (w2 = w1 ∨ w2 = w1.drew) := by
  simp only [choose, Sem.run]
  split
  ·exact ⟨_, _, rfl, .inl rfl⟩
  ·exact ⟨_, _, rfl, .inr rfl⟩
 refine ⟨_, w2, #[], G9 hc, ?_, fun e he => by simp at he, ?_⟩
 ·rcases hw2 with rfl | rfl
  ·exact Ay.refl _ _
  ·exact ⟨Nat.le_refl _, fun _ _ _ => rfl, rfl, rfl, rfl⟩
 ·have e : w2.heap.size = w1.heap.size := by rcases hw2 with rfl | rfl <;> rfl
  rw [e, BU, hs]
  exact h w1 hr t w2 hw2
end
end Go.Proofs.YtkkmokodaejheaaDoor
namespace Go.Proofs.YtkkmokodaejheaaDoor
open Go Go.Conc Go.Conc.Lib Go.ConcR.Gen Go.RowKit
open Go.ConcR (stA smA rd wr KK WgAt Bk DC0)
noncomputable def C8 : Frame := { (default : Frame) with fn := Tryd.prog.funcs.size, defers := [], mode := .panicking [goexitEntry] }
noncomputable abbrev b15 : Frame := baseD 15
noncomputable def AO : Code := Tryd.f15.body.getD .skip
noncomputable def Aw : Code := match AO with | .seq _ (.seq _ (.block _ (.loop c))) => c | _ => .skip
structure LL where
 Wg : Nat
 Ch : Nat
 Bk : Nat
 Bo : Nat
 Bp : Nat
 Bb : Nat
 Bf : Nat
 C : Nat
 Ap : Nat
 o : Int
 bud : Int
 m : Nat
 part : Nat → Value
 Kn : World → Prop                              -- what the check of a part leans on
def LL.caps (l : LL) : Array Value := #[.pointer (some ⟨l.Wg, 0, none⟩), .pointer (some ⟨l.Bk, 0, none⟩), .pointer (some ⟨l.Bo, 0, none⟩), .pointer (some ⟨l.Bp, 0, none⟩), .pointer (some ⟨l.Bb, 0, none⟩), .pointer (some ⟨l.Bf, 0, none⟩)]
def LL.call (l : LL) : Deferred := { target := .fn (.func 15) l.caps, args := #[] }
structure LWK (l : LL) (w : World) : Prop where
 keys : w.cell? ⟨l.Bk, 0, none⟩ = some (.chan (some l.Ch))
 obj : w.cell? ⟨l.Bo, 0, none⟩ = some (.int .i64 l.o)
 parts : w.cell? ⟨l.Bp, 0, none⟩ = some (.slice (some ⟨l.Ap, 0, none⟩) l.m l.m)
 bud : w.cell? ⟨l.Bb, 0, none⟩ = some (.int .i64 l.bud)
 found : w.cell? ⟨l.Bf, 0, none⟩ = some (.slice (some ⟨l.C, 0, none⟩) l.m l.m)
 part : ∀ k, k < l.m → w.cell? ⟨l.Ap, k, none⟩ = some (l.part k)
 kn : l.Kn w
structure LLR (c : Cfg) (l : LL) : Prop where
 wg : c.A.Wg = l.Wg
 ch : c.A.Ch = l.Ch
 rk : c.A.R l.Bk
 ro : c.A.R l.Bo
 rp : c.A.R l.Bp
 rb : c.A.R l.Bb
 rf : c.A.R l.Bf
 ra : c.A.R l.Ap
 kn : ∀ w w1 : World, w.heap.size ≤ w1.heap.size → (∀ b, c.A.R b → w1.heap[b]? = w.heap[b]?) → l.Kn w → l.Kn w1
theorem LWK.rely {c : Cfg} {l : LL} {M : Nat → Prop} {w w1 : World} (h : LWK l w) (k : LLR c l) (r : c.Rel M w w1) : LWK l w1 :=
 ⟨(Cfg.cell_of (r.mine _ (.inr k.rk))).trans h.keys, (Cfg.cell_of (r.mine _ (.inr k.ro))).trans h.obj, (Cfg.cell_of (r.mine _ (.inr k.rp))).trans h.parts, (Cfg.cell_of (r.mine _ (.inr k.rb))).trans h.bud, (Cfg.cell_of (r.mine _ (.inr k.rf))).trans h.found,
 fun j hj => (Cfg.cell_of (r.mine _ (.inr k.ra))).trans (h.part j hj), k.kn _ _ r.size (fun b hb => r.mine b (.inr hb)) h.kn⟩
theorem Pw (l : LL) (w : World) : stepG Tryd.prog false (born Tryd.prog l.call) w =
  .go (G (b15.at ⟨(l.caps.toList ++ List.replicate 18 undef).toArray, []⟩ [.code AO]) [C8]) w #[] := by
 simp [born, LL.call, LL.caps, stepG, unwind, callDeferred, invoke, callFunc, Tryd.func15, Tryd.f15, seen, GStep.after, G, Frame.enter, Frame.at, b15, baseD, C8, AO]
theorem Xc (T : Array Value) : QuitsD Tryd.prog 2 0 (G { b15.at ⟨T, []⟩ [] with mode := .returning } [C8]) := by
 refine QuitsD.ctl (g' := G C8 []) rfl (fun w => ?_) ?_
 ·simp [G, stepG, unwind, doReturn, results, Frame.at, b15, baseD, C8, Tryd.func15, Tryd.f15, seen, GStep.after, goexitEntry]
 refine QuitsD.ctl (g' := { G C8 [] with status := .finished }) rfl (fun w => ?_) ⟨rfl, rfl⟩
 simp [G, stepG, unwind, C8, goexitEntry, Frame.catches]
 rfl
def Og (l : LL) (g : Goroutine) (w : World) : Prop :=
 ∃ v6 v8 v9 v10 v11 v12 v13 v14 v15 v16 v17 v18 v19 v20 v21 v22 v23 : Value, g = G (b15.at ⟨#[.pointer (some ⟨l.Wg, 0, none⟩), .pointer (some ⟨l.Bk, 0, none⟩), .pointer (some ⟨l.Bo, 0, none⟩), .pointer (some ⟨l.Bp, 0, none⟩), .pointer (some ⟨l.Bb, 0, none⟩), .pointer (some ⟨l.Bf, 0, none⟩), v6, .chan (some l.Ch), v8, v9, v10, v11, v12, v13, v14, v15, v16, v17, v18, v19, v20, v21, v22, v23], [dcall 16 #[.pointer (some ⟨l.Wg, 0, none⟩)]]⟩ [.code Aw, .inLoop Aw, .inBlock 0]) [C8] ∧ LWK l w
def DW (c : Cfg) (w w' : World) (es : Array Event) : Prop := w' = w ∧ ∀ e ∈ es, BZ none_ c.A.R e
theorem Jy {c : Cfg} {w w' : World} {es : Array Event} (h : DC0 w w' es) : DW c w w' es := ⟨h.1, fun e he => by rw [h.2] at he; simp at he⟩
theorem Jt {P : Program} {main : Bool} {R : World → World → Prop} {D : World → World → Array Event → Prop} {S : Goroutine → World → Prop} {m : Nat} : ∀ {n : Nat} {g : Goroutine} {w : World}, Goes P main R D S m g w → Goes P main R D S (n + m) g w
 | 0, _, _, h => by rw [Nat.zero_add]; exact h
 | n + 1, _, _, h => by rw [Nat.add_right_comm]; exact (Jt (n := n) h).more
theorem MV {P : Program} {main : Bool} {R : World → World → Prop} {D : World → World → Array Event → Prop} {S : Goroutine → World → Prop} (hD : ∀ w w' es, DC0 w w' es → D w w' es) (hR : ∀ w, R w w) {m : Nat} :
  ∀ {n : Nat} {g : Goroutine} {w : World}, Goes P main R DC0 (fun g w => Goes P main R D S m g w) n g w → Goes P main R D S (n + m) g w
 | 0, g, w, h => Jt (h w (hR w))
 | n + 1, g, w, h => by
  rcases h with h | ⟨hs, h⟩
  ·exact Jt (h w (hR w))
  ·rw [Nat.add_right_comm]
   refine Goes.step hs fun w₁ r => ?_
   obtain ⟨g', w', es, e, hd, hn⟩ := goes_elim (h w₁ r)
   rw [e]
   exact ⟨hD _ _ _ hd, MV hD hR hn⟩
section
variable {c : Cfg} {l : LL}
theorem kw (k : LLR c l) {w w1 : World} (h : LWK l w) (r : c.Rel none_ w w1) : LWK l w1 := h.rely k r
set_option maxHeartbeats 4000000 in
theorem Wz (hP : c.P = Tryd.prog) (k : LLR c l) (w : World) (hK : LWK l w) : Goes Tryd.prog false (c.Rel none_) (DW c) (Og l) 20 (born Tryd.prog l.call) w := by
 refine MV (n := 10) (m := 10) (fun _ _ _ h => Jy h) (fun w => BS.refl _ _ _ _) ?_
 refine Goes.step rfl fun w₁ h₁ => ?_
 replace hK := kw k hK h₁
 clear h₁
 rw [Pw]
 refine ⟨by u_nil, ?_⟩
 simp only [AO, Tryd.f15, Option.getD_some, LL.caps, List.replicate, List.cons_append, List.nil_append]
 u_c stepG_seq (kw k) hK
 u_reg (kw k) hK
 u_defer (kw k) hK
 u_c stepG_region_end (kw k) hK
 u_c stepG_seq (kw k) hK
 u_reg (kw k) hK
 refine Goes.stop fun w₂ h₂ => ?_
 replace hK := kw k hK h₂
 clear h₂
 u_in (kw k) hK
 refine goes_oper_k rfl rfl (by decide) (fun Y hY => ?_)
 have h1 := hK.keys
 go_simp
 refine hY _ _ ⟨⟨rfl, fun e he => ?_⟩, ?_⟩
 ·have hm := mem_listed he
  simp [go_sem, *] at hm
  subst hm
  exact .inr ⟨k.rk, rfl⟩
 clear hY Y h1
 refine Dn (fun _ _ _ h => Jy h) ?_
 u_c stepG_region_end (kw k) hK
 u_c stepG_block (kw k) hK
 u_c stepG_loop (kw k) hK
 exact Goes.stop fun w₂ h₂ => ⟨_, _, _, _, _, _, _, _, _, _, _, _, _, _, _, _, _, rfl, kw k hK h₂⟩
end
section
variable {c : Cfg} {l : LL}
theorem QW {S : Goroutine → World → Prop} {n : Nat} {g : Goroutine} {w : World} (hP : c.P = Tryd.prog) (h : Goes Tryd.prog false (c.Rel none_) (DW c) S n g w) : c.WO (fun _ => S) g w := by
 refine Gf (E := BZ none_ c.A.R) (fun e h M => .inl ?_) (fun M w w1 h => Cfg.Df h) (hP ▸ h)
 unfold BZ at h ⊢
 cases hl : e.loc with
 | cell a => rw [hl] at h; exact .inr (h.resolve_left id)
 | obj r => rw [hl] at h; exact h.elim
 | mark m => rw [hl] at h; exact h
 | _ => rw [hl] at h; exact h.elim
theorem kb (k : LLR c l) {w w1 : World} (h : LWK l w ∧ c.Sh w) (r : c.Rel none_ w w1) : LWK l w1 ∧ c.Sh w1 := ⟨h.1.rely k r, r.sh h.2⟩
theorem Zr (K : c.Ok0) (hP : c.P = Tryd.prog) (hty : c.ty = link.tWg) (k : LLR c l) (T : Array Value) (w : World) (hS : c.Sh w) :
  Goes Tryd.prog false (c.Rel none_) DC0 (c.AtR0 none_) 23 (G ((baseD link.done).at ⟨#[.pointer (some ⟨l.Wg, 0, none⟩), undef, undef, undef], []⟩ [.code (body_done link)]) ({ b15.at ⟨T, []⟩ [] with mode := .returning } :: [C8])) w := by
 have hA := Cfg.Sw (L := link) K (hP ▸ Ko) hty (cf := { b15.at ⟨T, []⟩ [] with mode := .returning }) (cs := [C8]) (qt := 2) rfl (by rw [hP]; exact Xc T) w hS
 rw [k.wg, hP] at hA
 exact hA
theorem Sv (p : Value) : (#[p] ++ Array.replicate ((doneFn link).ntmps - (#[p] : Array Value).size) undef : Array Value) = #[p, undef, undef, undef] := by rfl
noncomputable def Yl : Array Oper := match Aw with | .seq (.region _ o _) _ => o | _ => #[]
noncomputable def AP : Code := match Aw with | .seq _ r => r | _ => .skip
def Wq (l : LL) (j : Nat) (g : Goroutine) : Prop :=
 ∃ v6 v9 v10 v11 v12 v13 v14 v15 v16 v17 v18 v19 v20 v21 v22 v23 : Value, g = G (b15.at ⟨#[.pointer (some ⟨l.Wg, 0, none⟩), .pointer (some ⟨l.Bk, 0, none⟩), .pointer (some ⟨l.Bo, 0, none⟩), .pointer (some ⟨l.Bp, 0, none⟩), .pointer (some ⟨l.Bb, 0, none⟩), .pointer (some ⟨l.Bf, 0, none⟩), v6, .chan (some l.Ch), .tuple #[.int .i64 j, .bool true], v9, v10, v11, v12, v13, v14, v15, v16, v17, v18, v19, v20, v21, v22, v23], [dcall 16 #[.pointer (some ⟨l.Wg, 0, none⟩)]]⟩ [.inRegion Yl [1], .code AP, .inLoop Aw, .inBlock 0]) [C8]
set_option maxHeartbeats 400000 in
theorem YD (K : c.Ok0) (hP : c.P = Tryd.prog) (hty : c.ty = link.tWg) (hz : c.z = .int .i64 0) (k : LLR c l) (hkey : ∀ (j : Nat) (g : Goroutine) (w : World), j < c.m → LWK l w → c.Sh w → Wq l j g → c.WO (c.EA j) g w) (g : Goroutine) (w : World) (h : Og l g w) (hS : c.Sh w) :
  Goes Tryd.prog false (c.Rel none_) (DW c) (c.Eo none_) 10 g w := by
 refine Dn (fun _ _ _ h => Jy h) ?_
 obtain ⟨v6, v8, v9, v10, v11, v12, v13, v14, v15, v16, v17, v18, v19, v20, v21, v22, v23, rfl, hK⟩ := h
 replace hK := And.intro hK hS
 clear hS
 simp only [Aw, AO, Tryd.f15, Option.getD_some]
 u_c stepG_seq (kb k) hK
 u_reg (kb k) hK
 refine Goes.stop fun w₁ h₁ => ?_
 replace hK := kb k hK h₁
 clear h₁
 refine ⟨rfl, rfl, ?_, fun j hj => ?_, ?_⟩
 ·rw [hP, hz, k.ch]
  rw [stepG_comm (cases := #[rcase l.Ch (.int .i64 0)]) (blocking := true) (shape := .recv true) (w' := w₁) rfl rfl (by decide) (by unfold execOp; go_simp; simp [rcase])]
  unfold listed
  rw [show (execOp _ _).events Tryd.prog w₁ #[] = #[] from by unfold execOp; simp [go_sem], seen_none]
 ·refine hkey j _ _ hj hK.1 hK.2 ?_
  rw [served_G]
  exact ⟨v6, v9, v10, v11, v12, v13, v14, v15, v16, v17, v18, v19, v20, v21, v22, v23, rfl⟩
 ·refine QW hP (n := 30) (Dn (fun _ _ _ h => Jy h) ?_)
  rw [hz, served_G]
  simp only [recvd, if_true]
  walk_nrm
  u_op (kb k) hK
  u_c stepG_region_end (kb k) hK
  u_c stepG_seq (kb k) hK
  u_cond false (kb k) hK
  u_exit (kb k) hK
  u_c stepG_end (kb k) hK
  u_in (kb k) hK
  rw [stepG_unwind_enter (c := body_done link) rfl Ko.f_done (nm_done link) rfl]
  simp only [goes_go]
  refine ⟨by u_nil, ?_⟩
  rw [Sv]
  exact Zr K hP hty k _ _ hK.2
end
end Go.Proofs.YtkkmokodaejheaaDoor
namespace Go.Proofs.YtkkmokodaejheaaDoor
open Go Go.Conc
section
variable {P : Program} {main : Bool} {R : Nat → Prop} {Sh : World → Prop} {X : Event → Prop} {Stop : (Nat → Prop) → Goroutine → World → Prop} {b : Frame} {ops : Array Oper} {k : List Item} {cs : List Frame} {a : Act} {M : Nat → Prop} {w : World} {i : Nat} {rest : List Nat} {o : Oper}
theorem Kc {v : Value} (ho : ops[i]? = some o) (hw : Region.wanted o (yielded ops a.tmps) = true) (hk : b.kind ≠ .early)
  (hr : ∀ w1, BS M R Sh w w1 → (execOp a.eval o).run P w1 = .ok (.value v) w1 ∧ ∀ e ∈ (execOp a.eval o).events P w1 #[], BZ M R e)
  (h : Own P main R Sh X Stop M (G (b.at (a.put o.dst v) (.inRegion ops rest :: k)) cs) w) : Own P main R Sh X Stop M (G (b.at a (.inRegion ops (i :: rest) :: k)) cs) w := by
 refine Own.mk rfl fun w1 r => ?_
 obtain ⟨h1, h2⟩ := hr w1 r
 refine ⟨_, w1, _, stepG_value ho hw hk h1, Ay.refl _ _, fun e he => .inl ?_, ?_⟩
 ·rw [BU]; exact h2 e (mem_listed he)
 ·rw [BU]; exact h.rely r
theorem Iy {f : FuncId} {fn : Func} {c : Code} {args : Array Value} (ho : ops[i]? = some o) (hw : Region.wanted o (yielded ops a.tmps) = true) (hk : b.kind ≠ .early) (hf : P.funcs[f]? = some fn) (hb : fn.body = some c)
  (hr : ∀ w1, BS M R Sh w w1 → (execOp a.eval o).run P w1 = .ok (.enter f args) w1 ∧ ∀ e ∈ (execOp a.eval o).events P w1 #[], BZ M R e)
  (h : ∀ w1, BS M R Sh w w1 → Own P main R Sh X Stop M (G ((base f).at { tmps := args ++ Array.replicate (fn.ntmps - args.size) undef, defers := [] } [.code c]) (b.at a (.inRegion ops (i :: rest) :: k) :: cs)) w1) :
  Own P main R Sh X Stop M (G (b.at a (.inRegion ops (i :: rest) :: k)) cs) w := by
 refine Own.mk rfl fun w1 r => ?_
 obtain ⟨h1, h2⟩ := hr w1 r
 have e := stepG_enter (main := main) (cs := cs) (k := k) (rest := rest) ho hw hk h1
 rw [enter_at args hf hb] at e
 refine ⟨_, w1, _, e, Ay.refl _ _, fun e he => .inl ?_, ?_⟩
 ·rw [BU]; exact h2 e (mem_listed he)
 ·rw [BU]; exact h w1 r
theorem Own.bind {Stop' : (Nat → Prop) → Goroutine → World → Prop} {M : Nat → Prop} {g : Goroutine} {w : World} (h : Own P main R Sh X Stop M g w) (hs : ∀ M g w, Stop M g w → Own P main R Sh X Stop' M g w) : Own P main R Sh X Stop' M g w := by
 induction h with
 | stop h => exact hs _ _ _ (h _ (BS.refl ..))
 | step hr nx h1 h2 h3 h4 ih => exact .step hr nx h1 h2 h3 ih
end
end Go.Proofs.YtkkmokodaejheaaDoor
namespace Go.Proofs.YtkkmokodaejheaaDoor
open Go Go.Conc Go.Conc.Lib Go.ConcR.Gen Go.RowKit
noncomputable def Bg : Code := match AP with | .seq _ (.block _ (.seq _ c)) => c | _ => .skip
noncomputable def Bl : Array Oper := match Bg with | .region _ o _ => o | _ => #[]
def At4 (l : LL) (j : Nat) (g : Goroutine) (w : World) : Prop :=
 ∃ v8 v9 v10 v11 v12 v13 v14 v15 v16 v17 v18 v19 v20 v21 v22 v23 : Value, g = G (b15.at ⟨#[.pointer (some ⟨l.Wg, 0, none⟩), .pointer (some ⟨l.Bk, 0, none⟩), .pointer (some ⟨l.Bo, 0, none⟩), .pointer (some ⟨l.Bp, 0, none⟩), .pointer (some ⟨l.Bb, 0, none⟩), .pointer (some ⟨l.Bf, 0, none⟩), .int .i64 j, .chan (some l.Ch), v8, v9, v10, v11, v12, v13, v14, v15, v16, v17, v18, v19, v20, v21, v22, v23], [dcall 16 #[.pointer (some ⟨l.Wg, 0, none⟩)]]⟩ [.code Bg, .inBlock 1, .inLoop Aw, .inBlock 0]) [C8] ∧ LWK l w
section
variable {c : Cfg} {l : LL}
set_option maxHeartbeats 400000 in
theorem XD (k : LLR c l) {j : Nat} {g : Goroutine} {w : World} (h : Wq l j g) (hK : LWK l w) : Goes Tryd.prog false (c.Rel none_) (DW c) (At4 l j) 20 g w := by
 refine Dn (fun _ _ _ h => Jy h) ?_
 obtain ⟨v6, v9, v10, v11, v12, v13, v14, v15, v16, v17, v18, v19, v20, v21, v22, v23, rfl⟩ := h
 simp only [Yl, AP, Aw, AO, Tryd.f15, Option.getD_some]
 u_op (kw k) hK
 u_c stepG_region_end (kw k) hK
 u_c stepG_seq (kw k) hK
 u_cond true (kw k) hK
 u_c stepG_skip (kw k) hK
 u_c stepG_block (kw k) hK
 u_c stepG_seq (kw k) hK
 u_reg (kw k) hK
 u_op (kw k) hK
 u_op (kw k) hK
 u_c stepG_region_end (kw k) hK
 exact Goes.stop fun w₂ h₂ => ⟨_, _, _, _, _, _, _, _, _, _, _, _, _, _, _, _, rfl, kw k hK h₂⟩
end
end Go.Proofs.YtkkmokodaejheaaDoor
namespace Go.Proofs.YtkkmokodaejheaaDoor
open Go Go.Conc
theorem JS {v : Value} (h : Plain v) : ∀ u ∈ v.cells, Plain u := by
 intro u hu F π
 have := (h F π).cells
 obtain ⟨i, hi⟩ := Array.mem_iff_getElem?.1 hu
 exact this.2 i u u hi hi
theorem Jk {c : Array Value} (h : ∀ u ∈ c, Plain u) : Plain (.agg c) := fun F π => .agg' (AR.self fun u hu => h u hu F π)
def OA {α : Type} (Q : α → Prop) (o : Option α) : Prop := ∀ a, o = some a → Q a
theorem IA {α : Type} {Q : α → Prop} : OA Q none := fun a e => by cases e
theorem Rk {α : Type} {Q : α → Prop} {a : α} (h : Q a) : OA Q (some a) := fun b e => by cases e; exact h
theorem D9 {α : Type} {Q : α → Prop} {a : α} (h : Q a) : OA Q (pure a) := Rk h
theorem Ey {α β : Type} {Q : β → Prop} {o : Option α} {f : α → Option β} (h : ∀ a, o = some a → OA Q (f a)) : OA Q (o >>= f) := by
 cases o with
 | none => exact IA
 | some a => exact h a rfl
theorem UK {α β : Type} (I : β → Prop) {g : α → β → Option (ForInStep β)} : ∀ (l : List α) (b : β), I b → (∀ a b, I b → OA (fun s => ∃ x, s = .yield x ∧ I x) (g a b)) → OA I (forIn l b g : Option β)
 | [], b, hb, _ => by rw [List.forIn_nil]; exact D9 hb
 | a :: l, b, hb, hg => by
  rw [List.forIn_cons]
  refine Ey fun s hs => ?_
  obtain ⟨x, rfl, hx⟩ := hg a b hb s hs
  exact UK I l x hx hg
def ZI (i : TypeInfo) : Prop := ∀ z, i.zero = some z → Plain z
theorem H6 {d : TypeDesc} {s : String} {z : Value} {c : Bool} {n : Nat} (h : Plain z) : ZI (Made.word d s z c n) := by
 intro z' hz
 simp only [Made.word, Option.some.injEq] at hz
 subst hz; exact h
def ZA (o : Option (Array Value)) : Prop := OA (fun z => ∀ u ∈ z, Plain u) o
theorem Yv {o : Option (Array Value)} {i : TypeInfo} {n : Nat} (h : ZA o) (hi : ZI i) : ZA (if n > Made.mostCells then none else do
  let a ← o
  let b ← i.zero
  pure (a ++ b.cells)) := by
 split
 ·exact IA
 ·refine Ey fun a ha => Ey fun b hb => D9 fun u hu => ?_
  rcases Array.mem_append.1 hu with h1 | h1
  ·exact h a ha u h1
  ·exact JS (hi b hb) u h1
theorem PM {info : TypeId → Option TypeInfo} (h : ∀ t, OA ZI (info t)) (fs : Array Field) : OA ZI (Made.reckonStruct info fs) := by
 unfold Made.reckonStruct
 dsimp only
 rw [← Array.forIn_toList]
 refine Ey fun r hr => ?_
 have hz : ZA r.2.2.2.2.2.2.2.1 := by
  refine UK (fun r : Array Field × Nat × Nat × Nat × Nat × Bool × Bool × Option (Array Value) × String => ZA r.2.2.2.2.2.2.2.1) _ _ ?_ ?_ r hr
  ·exact Rk fun u hu => by simp at hu
  ·intro f b hb
   refine Ey fun i hi => ?_
   have hiz := h _ i hi
   repeat' first
    | exact IA
    | exact D9 ⟨_, rfl, Yv hb hiz⟩
    | refine Ey fun _ _ => ?_
    | split
 repeat' first
  | split
  | refine D9 ?_
 all_goals
  intro z hz'
  simp only [Option.map_eq_some_iff] at hz'
  obtain ⟨c, hc, rfl⟩ := hz'
  exact Jk (hz c hc)
theorem PN {info : TypeId → Option TypeInfo} (h : ∀ t, OA ZI (info t)) (d : TypeDesc) : OA ZI (Made.reckon info d) := by
 unfold Made.reckon
 split
 case h_6 n e =>
  refine Ey fun i hi => Ey fun _ _ => D9 ?_
  intro z hz
  dsimp only at hz
  split at hz
  ·cases hz
  ·split at hz
   ·cases hz; exact Jk fun u hu => by simp at hu
   ·simp only [Option.map_eq_some_iff] at hz
    obtain ⟨y, hy, rfl⟩ := hz
    refine Jk fun u hu => ?_
    have : u ∈ y.cells := by
     obtain ⟨c, hc, hc'⟩ := Array.mem_flatten.1 hu
     rw [Array.mem_replicate] at hc
     exact hc.2 ▸ hc'
    exact JS (h _ i hi y hy) u this
 case h_7 fs => exact PM h fs
 all_goals
  repeat' first
   | exact IA
   | exact D9 (H6 fun F π => .ptr0)
   | exact D9 (H6 fun F π => .slice0 0 0)
   | exact D9 (H6 fun F π => .map0)
   | exact D9 (H6 fun F π => .chan0)
   | exact D9 (H6 fun F π => .nilFunc)
   | refine Ey fun _ _ => ?_
   | split
theorem SK {P : Program} (h : ∀ (t : Nat) i, P.types[t]? = some i → ZI i) : ∀ (n : Nat) (t : TypeId), OA ZI (Made.infoAt P.toTables n t)
 | 0, _ => IA
 | n + 1, t => by
  unfold Made.infoAt
  split
  ·exact fun i hi => h t i hi
  ·intro i hi
   obtain ⟨d, _, hd⟩ := Option.bind_eq_some_iff.1 hi
   exact PN (SK h n) d i hd
theorem SN {P : Program} (h : (P.types.all fun i => match i.zero with | some z => CG 6 z | none => true) = true) : FH P := by
 have h0 : ∀ (t : Nat) i, P.types[t]? = some i → ZI i := fun t i hi z hz => by
  have := Array.all_eq_true_iff_forall_mem.1 h i (Array.mem_of_getElem? hi)
  rw [hz] at this
  exact OM 6 z this
 intro t i z hi hz
 unfold Tables.info? at hi
 split at hi
 ·exact h0 t i hi z hz
 ·exact SK h0 _ _ i hi z hz
section
variable {P : Program} {F : FuncId → Prop} {π : Ren}
theorem Ov {ps rs : Array TypeId} {args args' : Array Value} (ha : AR (VR F π) args args') : SR P F (At π (VR F π)) π (Extern.SlicesOverlaps.overlaps ps rs args) (Extern.SlicesOverlaps.overlaps ps rs args') := by
 have main : ∀ {A A' B B' : Option Addr} (la ca lb cb : Nat), OR (AdR π) A A' → OR (AdR π) B B' →
   SR P F (At π (VR F π)) π (Extern.SlicesOverlaps.overlaps ps rs #[.slice A la ca, .slice B lb cb]) (Extern.SlicesOverlaps.overlaps ps rs #[.slice A' la ca, .slice B' lb cb]) := by
  intro A A' B B' la ca lb cb hA hB
  unfold Extern.SlicesOverlaps.overlaps
  cases ps[0]? with
  | none => exact .stuck
  | some t =>
   dsimp only
   refine SR.under fun d hd => ?_
   clear hd
   cases d <;> first | exact .stuck | skip
   rename_i elem
   dsimp only
   refine (BL elem).eq fun size => ?_
   cases hA with
   | none => exact .ret ⟨rfl, .bool _⟩
   | some ha =>
    cases hB with
    | none => exact .ret ⟨rfl, .bool _⟩
    | some hb =>
     rename_i a a' b b'
     have h1 : (a'.block == b'.block) = (a.block == b.block) := by rw [Bool.eq_iff_iff]; simpa using ha.block_iff hb
     have h1' : (a'.block != b'.block) = (a.block != b.block) := by rw [bne, bne, h1]
     dsimp only
     rw [h1, h1', ha.2.1, hb.2.1]
     split
     ·exact .ret ⟨rfl, .bool _⟩
     ·obtain ⟨z, hz⟩ : ∃ z, z = (a.block == b.block && decide (a.off < b.off + lb * size) && decide (b.off < a.off + la * size)) := ⟨_, rfl⟩
      rw [← hz]
      refine .frozens ha fun fa fa' e1 => .frozens hb fun fb fb' e2 => ?_
      by_cases hf : (a.block != b.block && fa && fb) = true
      ·rw [if_pos hf]; exact .dead (BQ (by intro g; simp))
      ·have hf' : ¬ (a.block != b.block && fa' && fb') = true := by
        intro e; simp only [Bool.and_eq_true] at e hf; exact hf ⟨⟨e.1.1, e1 e.1.2⟩, e2 e.2⟩
       rw [if_neg hf, if_neg hf']
       split
       ·rename_i hne
        have hz' : z = false := by
         have : (a.block == b.block) = false := by simpa [bne] using hne
         rw [hz, this]; rfl
        subst hz'
        refine (Fq ha).at fun _ _ _ => (Fq hb).at fun _ _ _ => (JK ha hb).at fun m m' hm => ?_
        cases m with
        | true =>
         cases m' with
         | true => exact .chooses fun n => .ret ⟨rfl, .bool _⟩
         | false => exact .chooseL 0 rfl (.ret ⟨rfl, .bool _⟩)
        | false =>
         cases m' with
         | true => exact absurd (hm rfl) (by simp)
         | false => exact .ret ⟨rfl, .bool _⟩
       ·exact .ret ⟨rfl, .bool _⟩
 obtain ⟨l⟩ := args
 obtain ⟨l'⟩ := args'
 have hl : LR (VR F π) l l' := by simpa using ha.lr
 clear ha
 cases hl with
 | nil => exact .stuck
 | cons h1 t1 =>
  cases t1 with
  | nil => cases h1 <;> exact .stuck
  | cons h2 t2 =>
   cases t2 with
   | cons h3 t3 => cases h1 <;> cases h2 <;> exact .stuck
   | nil =>
    cases h1 <;> first | exact .stuck | skip
    all_goals
     cases h2 <;> first | exact .stuck | skip
    all_goals
     refine main _ _ _ _ ?_ ?_ <;> first | exact .none | (refine .some ?_; assumption)
end
def U0 : List FuncId := [5, 6, 8, 9, 10, 11, 12, 13, 18, 19, 20, 21, 40, 41, 42, 43, 44, 45, 46, 52, 53, 54, 55, 56, 57, 58, 59, 60, 61, 62, 63, 64, 65, 66, 67, 68, 69, 70, 71, 72, 73, 74, 75, 76, 77, 78, 79, 80, 81, 82, 83]
def lcS : Scope where
 fns f := U0.contains f
 meths _ := false
 vars g := Nat.blt g 4
theorem UY : FH Tryd.prog := SN (by kernel_rfl)
theorem UZ : (U0.all fun f => match Tryd.prog.funcs[f]? with
 | some fn => !(fn.name == "runtime.NumGoroutine") && (fn.body.isSome || f == 67)
 | none => false) = true := by kernel_rfl
theorem XB : (U0.all fun f => match Tryd.prog.funcs[f]? with
 | some fn => (match fn.body with | some c => lcS.code Tryd.prog c | none => true)
 | none => false) = true := by kernel_rfl
theorem AaH : (Tryd.f67.name == "runtime.NumGoroutine") = false := by kernel_rfl
theorem AaJ : Tryd.f67.body.isNone = true := by kernel_rfl
theorem AaG : Extern.findNext Tryd.f67 = none := by kernel_rfl
theorem AaI : Extern.find Tryd.f67 = some (Extern.SlicesOverlaps.overlaps #[24, 24] #[4]) := by kernel_rfl
theorem ZU {F : FuncId → Prop} {π : Ren} {args args' : Array Value} (ha : AR (VR F π) args args') : SR Tryd.prog F (FK Tryd.prog F) π (callFunc 67 args) (callFunc 67 args') := by
 unfold callFunc
 refine .prog ?_
 rw [Tryd.func67]
 simp only [AaH, AaJ, AaG, AaI, if_true, Bool.false_eq_true, if_false]
 exact .extern (Bd (Bh (Ov ha)))
theorem IJ : PK Tryd.prog lcS where
 zeros := UY
 funcs f hf := by
  have h := List.all_eq_true.1 UZ f (by simpa [lcS] using hf)
  cases hfn : Tryd.prog.funcs[f]? with
  | none => rw [hfn] at h; cases h
  | some fn =>
   rw [hfn] at h
   simp only [Bool.and_eq_true, Bool.or_eq_true, Bool.not_eq_true', beq_iff_eq] at h
   refine ⟨fn, rfl, h.1, h.2.imp id fun e => ?_⟩
   subst e
   exact fun π args args' _ ha => ZU ha
 meths name h := by cases h
 code f fn c hf hfn hb := by
  have h := List.all_eq_true.1 XB f (by simpa [lcS] using hf)
  rw [hfn] at h
  simp only [hb] at h
  exact h
end Go.Proofs.YtkkmokodaejheaaDoor
namespace Go.Proofs.YtkkmokodaejheaaDoor
open Go Go.Conc Go.Conc.Lib Go.ConcR.Gen Go.RowKit
abbrev On (L : Array Bool) (i : Nat) : Prop := L.getD i false = true
theorem Qx {L : Array Bool} {i k : Nat} (hi : i < L.size) : On (L.setIfInBounds i true) k ↔ k = i ∨ On L k := by
 unfold On
 by_cases h : k = i
 ·subst h
  simp [hi]
 ·simp only [Array.getD_eq_getD_getElem?, Array.getElem?_setIfInBounds]
  rw [if_neg (fun e => h e.symm)]
  simp [h]
structure Cl4 (L : Array Bool) : Prop where
 n : L.size = 14
 h12 : On L 12 → On L 0 ∧ On L 1
 h5 : On L 5 → On L 3 ∧ On L 4
 h6 : On L 6 → On L 5
 h8 : On L 8 → On L 2 ∧ On L 6 ∧ On L 7
 h9 : On L 9 → On L 8
 h10 : On L 10 → On L 9
 h11 : On L 11 → On L 9
 h13 : On L 13 → On L 12 ∧ On L 10 ∧ On L 8
def FX (L : Array Bool) : Nat → Prop
 | 0 | 1 | 2 | 3 | 4 | 7 => True
 | 5 => On L 3 ∧ On L 4
 | 6 => On L 5
 | 8 => On L 2 ∧ On L 6 ∧ On L 7
 | 9 => On L 8
 | 10 => On L 9
 | 11 => On L 9
 | 12 => On L 0 ∧ On L 1
 | 13 => On L 12 ∧ On L 10 ∧ On L 8
 | _ => False
theorem YS {L : Array Bool} {i : Nat} (h : i ∈ Region.ready .any Bl L) : ¬ On L i ∧ FX L i := by
 obtain ⟨h0, o, ho, hall⟩ := mem_ready.1 h
 have hn : ¬ On L i := by
  unfold On
  rw [Array.getD_eq_getD_getElem?] at h0 ⊢
  cases hx : L[i]? with
  | none => simp
  | some b => rw [hx] at h0; simp only [Option.getD_some] at h0 ⊢; rw [h0]; simp
 refine ⟨hn, ?_⟩
 have hlt : i < 14 := by
  have := (Array.getElem?_eq_some_iff.1 ho).1
  exact Nat.lt_of_lt_of_le this (by simp [Bl, Bg, AP, Aw, AO, Tryd.f15])
 have fst : ∀ (e : _), e ∈ o.after.toList → Region.binds .any e = true → On L e.on := fun e he hb => hall e (by simpa using he) hb
 clear hall
 have ho' : o = Bl[i]'(Array.getElem?_eq_some_iff.1 ho).1 := (Array.getElem?_eq_some_iff.1 ho).2.symm
 match i, hlt with
 | 0, _ | 1, _ | 2, _ | 3, _ | 4, _ | 7, _ => trivial
 | 5, _ => exact ⟨fst ⟨3, .data⟩ (by rw [ho']; simp [Bl, Bg, AP, Aw, AO, Tryd.f15]) rfl, fst ⟨4, .data⟩ (by rw [ho']; simp [Bl, Bg, AP, Aw, AO, Tryd.f15]) rfl⟩
 | 6, _ => exact fst ⟨5, .data⟩ (by rw [ho']; simp [Bl, Bg, AP, Aw, AO, Tryd.f15]) rfl
 | 8, _ => exact ⟨fst ⟨2, .data⟩ (by rw [ho']; simp [Bl, Bg, AP, Aw, AO, Tryd.f15]) rfl, fst ⟨6, .data⟩ (by rw [ho']; simp [Bl, Bg, AP, Aw, AO, Tryd.f15]) rfl, fst ⟨7, .data⟩ (by rw [ho']; simp [Bl, Bg, AP, Aw, AO, Tryd.f15]) rfl⟩
 | 9, _ => exact fst ⟨8, .data⟩ (by rw [ho']; simp [Bl, Bg, AP, Aw, AO, Tryd.f15]) rfl
 | 10, _ => exact fst ⟨9, .data⟩ (by rw [ho']; simp [Bl, Bg, AP, Aw, AO, Tryd.f15]) rfl
 | 11, _ => exact fst ⟨9, .data⟩ (by rw [ho']; simp [Bl, Bg, AP, Aw, AO, Tryd.f15]) rfl
 | 12, _ => exact ⟨fst ⟨0, .data⟩ (by rw [ho']; simp [Bl, Bg, AP, Aw, AO, Tryd.f15]) rfl, fst ⟨1, .data⟩ (by rw [ho']; simp [Bl, Bg, AP, Aw, AO, Tryd.f15]) rfl⟩
 | 13, _ => exact ⟨fst ⟨12, .data⟩ (by rw [ho']; simp [Bl, Bg, AP, Aw, AO, Tryd.f15]) rfl, fst ⟨10, .data⟩ (by rw [ho']; simp [Bl, Bg, AP, Aw, AO, Tryd.f15]) rfl, fst ⟨8, .phase⟩ (by rw [ho']; simp [Bl, Bg, AP, Aw, AO, Tryd.f15]) rfl⟩
theorem Cl4.step {L : Array Bool} {i : Nat} (h : Cl4 L) (hm : FX L i) (hi : i < 14) : Cl4 (L.setIfInBounds i true) := by
 have e : ∀ k, On (L.setIfInBounds i true) k ↔ k = i ∨ On L k := fun k => Qx (by rw [h.n]; exact hi)
 obtain ⟨n, h12, h5, h6, h8, h9, h10, h11, h13⟩ := h
 refine ⟨by simpa using n, ?_, ?_, ?_, ?_, ?_, ?_, ?_, ?_⟩ <;> simp only [e] <;> rintro (rfl | hk)
 all_goals first
  | (simp only [FX] at hm; obtain ⟨g1, g2, g3⟩ := hm; exact ⟨.inr g1, .inr g2, .inr g3⟩)
  | (simp only [FX] at hm; obtain ⟨g1, g2⟩ := hm; exact ⟨.inr g1, .inr g2⟩)
  | (simp only [FX] at hm; exact .inr hm)
  | (obtain ⟨g1, g2⟩ := h12 hk; exact ⟨.inr g1, .inr g2⟩)
  | (obtain ⟨g1, g2⟩ := h5 hk; exact ⟨.inr g1, .inr g2⟩)
  | exact .inr (h6 hk)
  | (obtain ⟨g1, g2, g3⟩ := h8 hk; exact ⟨.inr g1, .inr g2, .inr g3⟩)
  | exact .inr (h9 hk)
  | exact .inr (h10 hk)
  | exact .inr (h11 hk)
  | (obtain ⟨g1, g2, g3⟩ := h13 hk; exact ⟨.inr g1, .inr g2, .inr g3⟩)
theorem Cl4.all {L : Array Bool} (h : Cl4 L) (hs : On L 13) : ∀ i, i < 14 → i ≠ 11 → On L i := by
 obtain ⟨g12, g10, g8⟩ := h.h13 hs
 obtain ⟨g0, g1⟩ := h.h12 g12
 obtain ⟨g2, g6, g7⟩ := h.h8 g8
 have g5 := h.h6 g6
 obtain ⟨g3, g4⟩ := h.h5 g5
 have g9 := h.h10 g10
 intro i hi hn
 match i, hi with
 | 0, _ => exact g0
 | 1, _ => exact g1
 | 2, _ => exact g2
 | 3, _ => exact g3
 | 4, _ => exact g4
 | 5, _ => exact g5
 | 6, _ => exact g6
 | 7, _ => exact g7
 | 8, _ => exact g8
 | 9, _ => exact g9
 | 10, _ => exact g10
 | 11, _ => exact absurd rfl hn
 | 12, _ => exact g12
 | 13, _ => exact hs
structure Found where
 code : Int
 ord : List Int
 ent : Int
def Gt (M : Nat → Prop) (w : World) (A : Option Addr) (cc : Nat) (o : List Int) : Prop :=
 o.length ≤ cc ∧ cc ≤ 9223372036854775807 ∧ (∀ a, A = some a → M a.block ∧ a.spot = none ∧ ∃ cs e f, w.heap[a.block]? = some (.cells cs e f)) ∧
  (0 < o.length → ∃ b, A = some ⟨b, 0, none⟩ ∧ ∀ (i : Nat) u, o[i]? = some u → w.cell? ⟨b, i, none⟩ = some (.int .i64 u))
theorem Gt.keep {M M' : Nat → Prop} {w w1 : World} {A : Option Addr} {cc : Nat} {o : List Int} (h : Gt M w A cc o) (hM : ∀ b, M b → M' b) (hw : ∀ b, M b → w1.heap[b]? = w.heap[b]?) : Gt M' w1 A cc o := by
 obtain ⟨h1, h2, h3, h4⟩ := h
 refine ⟨h1, h2, fun a e => ?_, fun hn => ?_⟩
 ·obtain ⟨g1, g2, g3⟩ := h3 a e
  exact ⟨hM _ g1, g2, by rw [hw _ g1]; exact g3⟩
 ·obtain ⟨b, e, hc⟩ := h4 hn
  exact ⟨b, e, fun i u hu => (Cfg.cell_of (hw b (h3 _ e).1)).trans (hc i u hu)⟩
def QR (f : Found) (A : Option Addr) (cc : Nat) : Value := .agg #[.int .i64 f.code, .slice A f.ord.length cc, .int .i64 f.ent]
def I4 (c : Cfg) (l : LL) (f : Nat → Found) (j : Nat) (L : Array Bool) (a : Act) (M : Nat → Prop) (w : World) : Prop :=
 Cl4 L ∧ LWK l w ∧ c.Sh w ∧ (∀ b, M b → c.A.B0 ≤ b) ∧ ∃ (A : Option Addr) (cc : Nat) (x v8 v9 v10 v11 v12 v13 v14 v15 v16 v17 v18 v19 v20 v21 v22 v23 : Value),
  a = ⟨#[.pointer (some ⟨l.Wg, 0, none⟩), .pointer (some ⟨l.Bk, 0, none⟩), .pointer (some ⟨l.Bo, 0, none⟩), .pointer (some ⟨l.Bp, 0, none⟩), .pointer (some ⟨l.Bb, 0, none⟩), .pointer (some ⟨l.Bf, 0, none⟩), .int .i64 j, .chan (some l.Ch), v8, v9, v10, v11, v12, v13, v14, v15, v16, v17, v18, v19, v20, v21, v22, v23], [dcall 16 #[.pointer (some ⟨l.Wg, 0, none⟩)]]⟩ ∧
  (On L 0 → v12 = .slice (some ⟨l.C, 0, none⟩) l.m l.m) ∧ (On L 1 → v13 = .int .i64 j) ∧ (On L 2 → v14 = .int .i64 l.o) ∧ (On L 3 → v15 = .slice (some ⟨l.Ap, 0, none⟩) l.m l.m) ∧ (On L 4 → v16 = .int .i64 j) ∧
  (On L 5 → v17 = .pointer (some ⟨l.Ap, j, none⟩)) ∧ (On L 6 → v18 = l.part j) ∧ (On L 7 → v19 = .int .i64 l.bud) ∧ (On L 8 → v20 = .tuple #[QR (f j) A cc, x] ∧ Gt M w A cc (f j).ord) ∧
  (On L 9 → v11 = .tuple #[QR (f j) A cc, x]) ∧ (On L 10 → v21 = QR (f j) A cc) ∧ (On L 12 → v23 = .pointer (some ⟨l.C, 3 * j, none⟩))
section
variable {c : Cfg} {l : LL} {f : Nat → Found}
theorem I4.rely (k : LLR c l) {j : Nat} {L : Array Bool} {a : Act} {M : Nat → Prop} {w w1 : World} (h : I4 c l f j L a M w) (r : c.Rel M w w1) : I4 c l f j L a M w1 := by
 obtain ⟨h1, h2, h3, hm, A, cc, x, v8, v9, v10, v11, v12, v13, v14, v15, v16, v17, v18, v19, v20, v21, v22, v23, e, g0, g1, g2, g3, g4, g5, g6, g7, g8, g9⟩ := h
 exact ⟨h1, h2.rely k r, r.sh h3, hm, A, cc, x, v8, v9, v10, v11, v12, v13, v14, v15, v16, v17, v18, v19, v20, v21, v22, v23, e, g0, g1, g2, g3, g4, g5, g6, g7, fun hb => ⟨(g8 hb).1, (g8 hb).2.keep (fun _ h => h) fun b hb => r.mine b (.inl hb)⟩, g9⟩
end
section
variable {c : Cfg} {l : LL} {f : Nat → Found} {M : Nat → Prop} {w1 : World} {v6 v8 v9 v10 v11 v12 v13 v14 v15 v16 v17 v18 v19 v20 v21 v22 v23 : Value} {d : List Deferred}
abbrev T4 (l : LL) (v6 v8 v9 v10 v11 v12 v13 v14 v15 v16 v17 v18 v19 v20 v21 v22 v23 : Value) (d : List Deferred) : Act :=
 ⟨#[.pointer (some ⟨l.Wg, 0, none⟩), .pointer (some ⟨l.Bk, 0, none⟩), .pointer (some ⟨l.Bo, 0, none⟩), .pointer (some ⟨l.Bp, 0, none⟩), .pointer (some ⟨l.Bb, 0, none⟩), .pointer (some ⟨l.Bf, 0, none⟩), v6, .chan (some l.Ch), v8, v9, v10, v11, v12, v13, v14, v15, v16, v17, v18, v19, v20, v21, v22, v23], d⟩
noncomputable abbrev o4 (i : Nat) : Oper := Bl.getD i default
theorem OY {i : Nat} (h : i < 14) : Bl[i]? = some (o4 i) := by
 have e : Bl.size = 14 := by simp [Bl, Bg, AP, Aw, AO, Tryd.f15]
 unfold o4
 rw [Array.getD_eq_getD_getElem?, Array.getElem?_eq_getElem (by omega)]
 rfl
abbrev Cz (c : Cfg) (M : Nat → Prop) (a : Act) (i : Nat) (v : Value) (w1 : World) : Prop :=
 (execOp a.eval (o4 i)).run Tryd.prog w1 = .ok (.value v) w1 ∧ ∀ e ∈ (execOp a.eval (o4 i)).events Tryd.prog w1 #[], BZ M c.A.R e
theorem AaZ (k : LLR c l) (h : LWK l w1) : Cz c M (T4 l v6 v8 v9 v10 v11 v12 v13 v14 v15 v16 v17 v18 v19 v20 v21 v22 v23 d) 0 (.slice (some ⟨l.C, 0, none⟩) l.m l.m) w1 := by
 have h1 := h.found
 unfold Cz execOp
 simp only [o4, Bl, Bg, AP, Aw, AO, Tryd.f15, Option.getD_some]
 constructor
 ·go_simp
 ·intro e he; simp [go_sem, *] at he; (try subst he); (try (first | exact .inr ⟨(‹LLR _ _›).rk, rfl⟩ | exact .inr ⟨(‹LLR _ _›).ro, rfl⟩ | exact .inr ⟨(‹LLR _ _›).rp, rfl⟩ | exact .inr ⟨(‹LLR _ _›).rb, rfl⟩ | exact .inr ⟨(‹LLR _ _›).rf, rfl⟩ | exact .inr ⟨(‹LLR _ _›).ra, rfl⟩))
theorem AaY (k : LLR c l) (h : LWK l w1) : Cz c M (T4 l v6 v8 v9 v10 v11 v12 v13 v14 v15 v16 v17 v18 v19 v20 v21 v22 v23 d) 1 v6 w1 := by
 unfold Cz execOp
 simp only [o4, Bl, Bg, AP, Aw, AO, Tryd.f15, Option.getD_some]
 constructor
 ·go_simp
 ·intro e he; simp [go_sem, *] at he; (try subst he); (try (first | exact .inr ⟨(‹LLR _ _›).rk, rfl⟩ | exact .inr ⟨(‹LLR _ _›).ro, rfl⟩ | exact .inr ⟨(‹LLR _ _›).rp, rfl⟩ | exact .inr ⟨(‹LLR _ _›).rb, rfl⟩ | exact .inr ⟨(‹LLR _ _›).rf, rfl⟩ | exact .inr ⟨(‹LLR _ _›).ra, rfl⟩))
theorem AaX (k : LLR c l) (h : LWK l w1) : Cz c M (T4 l v6 v8 v9 v10 v11 v12 v13 v14 v15 v16 v17 v18 v19 v20 v21 v22 v23 d) 2 (.int .i64 l.o) w1 := by
 have h1 := h.obj
 unfold Cz execOp
 simp only [o4, Bl, Bg, AP, Aw, AO, Tryd.f15, Option.getD_some]
 constructor
 ·go_simp
 ·intro e he; simp [go_sem, *] at he; (try subst he); (try (first | exact .inr ⟨(‹LLR _ _›).rk, rfl⟩ | exact .inr ⟨(‹LLR _ _›).ro, rfl⟩ | exact .inr ⟨(‹LLR _ _›).rp, rfl⟩ | exact .inr ⟨(‹LLR _ _›).rb, rfl⟩ | exact .inr ⟨(‹LLR _ _›).rf, rfl⟩ | exact .inr ⟨(‹LLR _ _›).ra, rfl⟩))
theorem AaW (k : LLR c l) (h : LWK l w1) : Cz c M (T4 l v6 v8 v9 v10 v11 v12 v13 v14 v15 v16 v17 v18 v19 v20 v21 v22 v23 d) 3 (.slice (some ⟨l.Ap, 0, none⟩) l.m l.m) w1 := by
 have h1 := h.parts
 unfold Cz execOp
 simp only [o4, Bl, Bg, AP, Aw, AO, Tryd.f15, Option.getD_some]
 constructor
 ·go_simp
 ·intro e he; simp [go_sem, *] at he; (try subst he); (try (first | exact .inr ⟨(‹LLR _ _›).rk, rfl⟩ | exact .inr ⟨(‹LLR _ _›).ro, rfl⟩ | exact .inr ⟨(‹LLR _ _›).rp, rfl⟩ | exact .inr ⟨(‹LLR _ _›).rb, rfl⟩ | exact .inr ⟨(‹LLR _ _›).rf, rfl⟩ | exact .inr ⟨(‹LLR _ _›).ra, rfl⟩))
theorem AaV (k : LLR c l) (h : LWK l w1) : Cz c M (T4 l v6 v8 v9 v10 v11 v12 v13 v14 v15 v16 v17 v18 v19 v20 v21 v22 v23 d) 4 v6 w1 := by
 unfold Cz execOp
 simp only [o4, Bl, Bg, AP, Aw, AO, Tryd.f15, Option.getD_some]
 constructor
 ·go_simp
 ·intro e he; simp [go_sem, *] at he; (try subst he); (try (first | exact .inr ⟨(‹LLR _ _›).rk, rfl⟩ | exact .inr ⟨(‹LLR _ _›).ro, rfl⟩ | exact .inr ⟨(‹LLR _ _›).rp, rfl⟩ | exact .inr ⟨(‹LLR _ _›).rb, rfl⟩ | exact .inr ⟨(‹LLR _ _›).rf, rfl⟩ | exact .inr ⟨(‹LLR _ _›).ra, rfl⟩))
theorem AaU (k : LLR c l) (h : LWK l w1) {j : Nat} (hj : j < l.m) : Cz c M (T4 l v6 v8 v9 v10 v11 v12 v13 v14 (.slice (some ⟨l.Ap, 0, none⟩) l.m l.m) (.int .i64 (j : Int)) v17 v18 v19 v20 v21 v22 v23 d) 5 (.pointer (some ⟨l.Ap, j, none⟩)) w1 := by
 unfold Cz execOp
 simp only [o4, Bl, Bg, AP, Aw, AO, Tryd.f15, Option.getD_some]
 constructor
 ·go_simp
 ·intro e he; simp [go_sem, *] at he; (try subst he); (try (first | exact .inr ⟨(‹LLR _ _›).rk, rfl⟩ | exact .inr ⟨(‹LLR _ _›).ro, rfl⟩ | exact .inr ⟨(‹LLR _ _›).rp, rfl⟩ | exact .inr ⟨(‹LLR _ _›).rb, rfl⟩ | exact .inr ⟨(‹LLR _ _›).rf, rfl⟩ | exact .inr ⟨(‹LLR _ _›).ra, rfl⟩))
theorem AaT (k : LLR c l) (h : LWK l w1) {j : Nat} (hj : j < l.m) : Cz c M (T4 l v6 v8 v9 v10 v11 v12 v13 v14 v15 v16 (.pointer (some ⟨l.Ap, j, none⟩)) v18 v19 v20 v21 v22 v23 d) 6 (l.part j) w1 := by
 have h1 := h.part j hj
 unfold Cz execOp
 simp only [o4, Bl, Bg, AP, Aw, AO, Tryd.f15, Option.getD_some]
 constructor
 ·go_simp
 ·intro e he; simp [go_sem, *] at he; (try subst he); (try (first | exact .inr ⟨(‹LLR _ _›).rk, rfl⟩ | exact .inr ⟨(‹LLR _ _›).ro, rfl⟩ | exact .inr ⟨(‹LLR _ _›).rp, rfl⟩ | exact .inr ⟨(‹LLR _ _›).rb, rfl⟩ | exact .inr ⟨(‹LLR _ _›).rf, rfl⟩ | exact .inr ⟨(‹LLR _ _›).ra, rfl⟩))
theorem AaS (k : LLR c l) (h : LWK l w1) : Cz c M (T4 l v6 v8 v9 v10 v11 v12 v13 v14 v15 v16 v17 v18 v19 v20 v21 v22 v23 d) 7 (.int .i64 l.bud) w1 := by
 have h1 := h.bud
 unfold Cz execOp
 simp only [o4, Bl, Bg, AP, Aw, AO, Tryd.f15, Option.getD_some]
 constructor
 ·go_simp
 ·intro e he; simp [go_sem, *] at he; (try subst he); (try (first | exact .inr ⟨(‹LLR _ _›).rk, rfl⟩ | exact .inr ⟨(‹LLR _ _›).ro, rfl⟩ | exact .inr ⟨(‹LLR _ _›).rp, rfl⟩ | exact .inr ⟨(‹LLR _ _›).rb, rfl⟩ | exact .inr ⟨(‹LLR _ _›).rf, rfl⟩ | exact .inr ⟨(‹LLR _ _›).ra, rfl⟩))
theorem AaQ (k : LLR c l) (h : LWK l w1) : Cz c M (T4 l v6 v8 v9 v10 v11 v12 v13 v14 v15 v16 v17 v18 v19 v20 v21 v22 v23 d) 9 v20 w1 := by
 unfold Cz execOp
 simp only [o4, Bl, Bg, AP, Aw, AO, Tryd.f15, Option.getD_some]
 constructor
 ·go_simp
 ·intro e he; simp [go_sem, *] at he; (try subst he); (try (first | exact .inr ⟨(‹LLR _ _›).rk, rfl⟩ | exact .inr ⟨(‹LLR _ _›).ro, rfl⟩ | exact .inr ⟨(‹LLR _ _›).rp, rfl⟩ | exact .inr ⟨(‹LLR _ _›).rb, rfl⟩ | exact .inr ⟨(‹LLR _ _›).rf, rfl⟩ | exact .inr ⟨(‹LLR _ _›).ra, rfl⟩))
theorem Aav (k : LLR c l) (h : LWK l w1) {x y : Value} : Cz c M (T4 l v6 v8 v9 v10 (.tuple #[x, y]) v12 v13 v14 v15 v16 v17 v18 v19 v20 v21 v22 v23 d) 10 x w1 := by
 unfold Cz execOp
 simp only [o4, Bl, Bg, AP, Aw, AO, Tryd.f15, Option.getD_some]
 constructor
 ·go_simp
 ·intro e he; simp [go_sem, *] at he; (try subst he); (try (first | exact .inr ⟨(‹LLR _ _›).rk, rfl⟩ | exact .inr ⟨(‹LLR _ _›).ro, rfl⟩ | exact .inr ⟨(‹LLR _ _›).rp, rfl⟩ | exact .inr ⟨(‹LLR _ _›).rb, rfl⟩ | exact .inr ⟨(‹LLR _ _›).rf, rfl⟩ | exact .inr ⟨(‹LLR _ _›).ra, rfl⟩))
theorem Yp (k : LLR c l) (h : LWK l w1) {x y : Value} : Cz c M (T4 l v6 v8 v9 v10 (.tuple #[x, y]) v12 v13 v14 v15 v16 v17 v18 v19 v20 v21 v22 v23 d) 11 y w1 := by
 unfold Cz execOp
 simp only [o4, Bl, Bg, AP, Aw, AO, Tryd.f15, Option.getD_some]
 constructor
 ·go_simp
 ·intro e he; simp [go_sem, *] at he; (try subst he); (try (first | exact .inr ⟨(‹LLR _ _›).rk, rfl⟩ | exact .inr ⟨(‹LLR _ _›).ro, rfl⟩ | exact .inr ⟨(‹LLR _ _›).rp, rfl⟩ | exact .inr ⟨(‹LLR _ _›).rb, rfl⟩ | exact .inr ⟨(‹LLR _ _›).rf, rfl⟩ | exact .inr ⟨(‹LLR _ _›).ra, rfl⟩))
theorem Aau (k : LLR c l) (h : LWK l w1) {j : Nat} (hj : j < l.m) : Cz c M (T4 l v6 v8 v9 v10 v11 (.slice (some ⟨l.C, 0, none⟩) l.m l.m) (.int .i64 (j : Int)) v14 v15 v16 v17 v18 v19 v20 v21 v22 v23 d) 12 (.pointer (some ⟨l.C, 3 * j, none⟩)) w1 := by
 unfold Cz execOp
 simp only [o4, Bl, Bg, AP, Aw, AO, Tryd.f15, Option.getD_some]
 constructor
 ·go_simp
 ·intro e he; simp [go_sem, *] at he; (try subst he); (try (first | exact .inr ⟨(‹LLR _ _›).rk, rfl⟩ | exact .inr ⟨(‹LLR _ _›).ro, rfl⟩ | exact .inr ⟨(‹LLR _ _›).rp, rfl⟩ | exact .inr ⟨(‹LLR _ _›).rb, rfl⟩ | exact .inr ⟨(‹LLR _ _›).rf, rfl⟩ | exact .inr ⟨(‹LLR _ _›).ra, rfl⟩))
end
section
variable {c : Cfg} {l : LL} {f : Nat → Found} {M : Nat → Prop} {w1 : World} {v6 v8 v9 v10 v11 v12 v13 v14 v15 v16 v17 v18 v19 v20 v21 v22 v23 : Value} {d : List Deferred}
def Gh (l : LL) (j : Nat) (x y z : Value) (w : World) : World := ((w.setCell ⟨l.C, 3 * j, none⟩ x).setCell ⟨l.C, 3 * j + 1, none⟩ y).setCell ⟨l.C, 3 * j + 2, none⟩ z
theorem JH {P : Program} {w : World} {g k : Nat} {cs : Array Value} {e : TypeId} {v : Value} (hg : w.heap[g]? = some (.cells cs e (0, 0))) (hk : k < cs.size) (h1 : v.oneCell' = true) :
  (store ⟨g, k, none⟩ v).run P w = .ok () (w.setCell ⟨g, k, none⟩ v) ∧ (∀ es, (store ⟨g, k, none⟩ v).events P w es = es.push ⟨.cell ⟨g, k, none⟩, true, false⟩) ∧
   (w.setCell ⟨g, k, none⟩ v).heap[g]? = some (.cells (cs.setIfInBounds k v) e (0, 0)) := by
 have hcell : w.cell? ⟨g, k, none⟩ = some cs[k] := by simp [World.cell?, hg, hk]
 have hfro : w.frozen? ⟨g, k, none⟩ = false := by simp [World.frozen?, hg]
 have hset := setCell_eq_setRow w g k cs e (0, 0) v hg
 refine ⟨?_, fun es => ?_, ?_⟩
 ·rw [Go.run_store P w _ v _ h1, hcell]
  simp [hfro]
 ·rw [Go.events_store P w es _ v _ h1, hcell]
  simp only [hfro, Bool.false_eq_true, if_false]
  rfl
 ·rw [hset]; exact setRow_heap w g cs _ e _ hg
theorem Aat {j : Nat} {x y z : Value} {cs : Array Value} {e : TypeId} (hC : w1.heap[l.C]? = some (.cells cs e (0, 0))) (hn : 3 * j + 3 ≤ cs.size) (h1 : #[x, y, z].toList.all (·.oneCell') = true) :
  (execOp (T4 l v6 v8 v9 v10 v11 v12 v13 v14 v15 v16 v17 v18 v19 v20 (.agg #[x, y, z]) v22 (.pointer (some ⟨l.C, 3 * j, none⟩)) d).eval (o4 13)).run Tryd.prog w1 = .ok .skip (Gh l j x y z w1) ∧
   ∀ ev ∈ (execOp (T4 l v6 v8 v9 v10 v11 v12 v13 v14 v15 v16 v17 v18 v19 v20 (.agg #[x, y, z]) v22 (.pointer (some ⟨l.C, 3 * j, none⟩)) d).eval (o4 13)).events Tryd.prog w1 #[], ∃ i, i < 3 ∧ ev.loc = .cell ⟨l.C, 3 * j + i, none⟩ := by
 have hev : ev (fun i => (T4 l v6 v8 v9 v10 v11 v12 v13 v14 v15 v16 v17 v18 v19 v20 (.agg #[x, y, z]) v22 (.pointer (some ⟨l.C, 3 * j, none⟩)) d).tmps.getD i undef) = (T4 l v6 v8 v9 v10 v11 v12 v13 v14 v15 v16 v17 v18 v19 v20 (.agg #[x, y, z]) v22 (.pointer (some ⟨l.C, 3 * j, none⟩)) d).eval := by
  funext q; cases q <;> rfl
 constructor
 ·rw [← hev]
  have := run_store (P := Tryd.prog) (o := o4 13) (w := w1) (g := l.C) (j := 3 * j) (n := 3) (u := .agg #[x, y, z]) (vs := #[x, y, z]) (cs := cs) (t := e) (ρ := fun i => (T4 l v6 v8 v9 v10 v11 v12 v13 v14 v15 v16 v17 v18 v19 v20 (.agg #[x, y, z]) v22 (.pointer (some ⟨l.C, 3 * j, none⟩)) d).tmps.getD i undef)
   (tt := 26) (x := .tmp 23) (y := .tmp 21) (by simp [o4, Bl, Bg, AP, Aw, AO, Tryd.f15]) rfl rfl rfl (by kernel_rfl) rfl hC (by omega) (by simp [h1])
  rw [this]
  rfl
 ·intro ev hev
  unfold execOp at hev
  simp only [o4, Bl, Bg, AP, Aw, AO, Tryd.f15, Option.getD_some] at hev
  simp [go_sem] at hev
  simp only [List.all_cons, List.all_nil, Bool.and_true, Bool.and_eq_true] at h1
  obtain ⟨r1, e1, s1⟩ := JH (P := Tryd.prog) (v := x) hC (show 3 * j < cs.size by omega) h1.1
  obtain ⟨r2, e2, s2⟩ := JH (P := Tryd.prog) (v := y) s1 (show 3 * j + 1 < _ by simp; omega) h1.2.1
  obtain ⟨r3, e3, s3⟩ := JH (P := Tryd.prog) (v := z) s2 (show 3 * j + 2 < _ by simp; omega) h1.2.2
  rw [r1, e1] at hev
  simp only [Result.evThen_ok, r2, e2, e3] at hev
  simp only [Array.mem_push, Array.not_mem_empty, false_or] at hev
  rcases hev with (rfl | rfl) | rfl
  ·exact ⟨0, by omega, rfl⟩
  ·exact ⟨1, by omega, rfl⟩
  ·exact ⟨2, by omega, rfl⟩
end
structure KN4 (c : Cfg) (l : LL) (ops : Nat → List Op8) (D : Nat → Prop) (w : World) : Prop where
 sub : ∀ b, D b → c.A.R b
 row : ∀ b, D b → ∃ cs e f, w.heap[b]? = some (.cells cs e f)
 glob : ∀ g, g < 4 → D g
 gsz : Tryd.prog.globals.size ≤ w.heap.size
 b0 : c.A.B0 ≤ w.heap.size
 kn : Dq w
 part : ∀ k, k < l.m → ∃ A n cc, l.part k = .slice A n cc ∧ (∀ a, A = some a → D a.block ∧ a.spot = none) ∧ BK w D (.slice A n cc) (ops k)
theorem UJ {F : FuncId → Prop} {π : Ren} (o : Op8) : ∀ u ∈ opV o, VR F π u u := by
 intro u hu
 simp only [opV, List.mem_cons, List.not_mem_nil, or_false] at hu
 rcases hu with rfl | rfl | rfl | rfl | rfl | rfl | rfl | rfl <;> exact .int _ _
theorem Fx {F : FuncId → Prop} {D : Nat → Prop} {w : World} {A : Option Addr} {n cc : Nat} {l : List Op8} (t : Nat → Question → Nat) (h : BK w D (.slice A n cc) l) : BK (idv F D (w.tp t)) D (.slice A n cc) l := by
 obtain ⟨A', c', h1, h2, h3, h4, h5⟩ := h
 refine ⟨A', c', h1, h2, h3, h4, fun hn => ?_⟩
 obtain ⟨b, o, e, hD, hc⟩ := h5 hn
 refine ⟨b, o, e, hD, fun j u hu => IK hD ((show (w.tp t).cell? _ = w.cell? _ from rfl) ▸ hc j u hu) ?_⟩
 obtain ⟨x, hx, hxu⟩ := List.mem_flatMap.1 (List.mem_of_getElem? hu)
 exact UJ x u hxu
theorem Gi {F : FuncId → Prop} {D : Nat → Prop} {w : World} (t : Nat → Question → Nat) (hD : ∀ g, g < 4 → D g) (h : Dq w) : Dq (idv F D (w.tp t)) := fun i hi => IK (hD _ (show (0 : Nat) < 4 by decide)) (h i hi) (.int _ _)
open Classical in
noncomputable def Da (l : LL) (ops : Nat → List Op8) (k : Nat) : Found :=
 if BA l.o (ops k) l.bud then ⟨(Bj l.o (ops k) BN l.bud.toNat).1, F3 (Bj l.o (ops k) BN l.bud.toNat), (Bj l.o (ops k) BN l.bud.toNat).2.ent.length⟩ else ⟨0, [], 0⟩
theorem Aa1 (c : Array Value) (h : 2 = c.size) : ∃ a b, c = #[a, b] := by
 obtain ⟨l⟩ := c
 match l, h with
 | [a, b], _ => exact ⟨a, b, rfl⟩
theorem Aa0 (c : Array Value) (h : 3 = c.size) : ∃ a b d, c = #[a, b, d] := by
 obtain ⟨l⟩ := c
 match l, h with
 | [a, b, d], _ => exact ⟨a, b, d, rfl⟩
theorem Fp {F : FuncId → Prop} {π : Ren} {a b u : Value} (h : VR F π (.tuple #[a, b]) u) : ∃ a' b', u = .tuple #[a', b'] ∧ VR F π a a' ∧ VR F π b b' := by
 cases h with
 | tuple hs hc =>
  obtain ⟨a', b', rfl⟩ := Aa1 _ hs
  exact ⟨a', b', rfl, hc 0 _ _ rfl rfl, hc 1 _ _ rfl rfl⟩
theorem Ia {F : FuncId → Prop} {π : Ren} {a b d u : Value} (h : VR F π (.agg #[a, b, d]) u) : ∃ a' b' d', u = .agg #[a', b', d'] ∧ VR F π a a' ∧ VR F π b b' ∧ VR F π d d' := by
 cases h with
 | agg hs hc =>
  obtain ⟨a', b', d', rfl⟩ := Aa0 _ hs
  exact ⟨a', b', d', rfl, hc 0 _ _ rfl rfl, hc 1 _ _ rfl rfl, hc 2 _ _ rfl rfl⟩
theorem VC {c : Cfg} {l : LL} {ops : Nat → List Op8} {D M : Nat → Prop} {w v w1 : World} {j : Nat} {π : Ren} {u u' : Value} {t : Nat → Question → Nat} (KN : KN4 c l ops D w) (hR : ∀ b, c.A.R b → b < c.A.B0) (hle : (idr D w.heap.size).Le π) (hu : VR (SF lcS) π u u')
  (hK : IY l.o (ops j) BN l.bud (idv (SF lcS) D (w.tp t)) (.returned u) v) (hW : WR (SF lcS) π c.A.R v w1) (hM : ∀ k k', π.to k = some k' → π.own k → M k') :
  ∃ A cc x, u' = .tuple #[QR (Da l ops j) A cc, x] ∧ Gt M w1 A cc (Da l ops j).ord := by
 rcases hK with ⟨hok, A, cc, e, hI⟩ | ⟨hok, ⟨x, hx, e⟩, hp⟩
 ·injection e with e
  subst e
  have hrow : v.ownsRow 0 3 1 (.slice A (F3 (Bj l.o (ops j) BN l.bud.toNat)).length cc) (F3 (Bj l.o (ops j) BN l.bud.toNat)).length (Ba (F3 (Bj l.o (ops j) BN l.bud.toNat))) := hI.ok _ (List.mem_singleton.2 rfl) |>.1
  have hf : Da l ops j = ⟨(Bj l.o (ops j) BN l.bud.toNat).1, F3 (Bj l.o (ops j) BN l.bud.toNat), (Bj l.o (ops j) BN l.bud.toNat).2.ent.length⟩ := by unfold Da; rw [if_pos hok]
  generalize F3 (Bj l.o (ops j) BN l.bud.toNat) = od at hrow hf hu hI
  obtain ⟨y0, y1, rfl, h0, _⟩ := Fp hu
  obtain ⟨z0, z1, z2, rfl, g0, g1, g2⟩ := Ia h0
  cases g0; cases g2
  rw [hf]
  obtain ⟨hlen, hcase⟩ := hrow
  cases g1 with
  | slice0 =>
   refine ⟨none, cc, y1, rfl, ?_⟩
   rcases hcase with ⟨e1, e2⟩ | ⟨g, cap, cur, e1, _⟩
   ·injection e1 with _ e3 e4
    exact ⟨by simp only; omega, by omega, fun a ha => (by cases ha), fun hn => (by simp only at hn; omega)⟩
   ·injection e1 with e1; cases e1
  | slice lx cx ha =>
   rename_i a a'
   rcases hcase with ⟨e1, e2⟩ | ⟨g, cap, cur, e1, hb, hcur, hn, hcap, hsz, htk⟩
   ·injection e1 with e1; cases e1
   ·injection e1 with e1 e2 e3
    cases e1
    subst e3
    have hown : (idv (SF lcS) D (w.tp t)).heap.size ≤ g := (hI.own _ (List.mem_singleton.2 rfl) g (by simp [StE, Row])).resolve_left (fun h => h)
    have hsz' : (idv (SF lcS) D (w.tp t)).heap.size = w.heap.size := Gj
    rw [hsz'] at hown
    have hbase : π.base = w.heap.size := hle.base
    have ho : π.own g := by
     apply Classical.byContradiction
     intro hno
     obtain ⟨hr, _⟩ := hW.ro _ _ ha.1 hno
     have h1 := hR _ hr
     have h2 := KN.b0
     have := π.low _ _ ha.1 (.inr (by omega))
     have h3 : a'.block = g := this
     omega
    have hMb := hM _ _ ha.1 ho
    obtain ⟨oo, oo', q1, q2, q3⟩ := hW.mine _ _ ha.1 ho
    rw [hcur] at q1
    injection q1 with q1
    subst q1
    cases q3 with
    | cells e f hAR =>
     rename_i cur'
     have hoff : a'.off = 0 := ha.2.1
     have hsp : a'.spot = none := ha.2.2
     obtain ⟨ab, ao, asp⟩ := a'
     dsimp only at hoff hsp q2 hMb
     subst hoff
     subst hsp
     have e63 : maxLen ≤ 9223372036854775807 := by decide
     refine ⟨some ⟨ab, 0, none⟩, cc, y1, rfl, hn, by omega, fun x hx => ?_, fun hpos => ⟨ab, rfl, fun i z hz => ?_⟩⟩
     ·cases hx
      exact ⟨hMb, rfl, _, _, _, q2⟩
     ·have hil : i < od.length := (List.getElem?_eq_some_iff.1 hz).1
      have hci : cur[i]? = some (.int .i64 z) := by
       have e5 : (cur.toList.take (od.length * 1))[i]? = (Ba od)[i]? := by rw [htk]
       rw [List.getElem?_take_of_lt (by omega), Array.getElem?_toList] at e5
       rw [e5]
       simp [Ba, hz]
      obtain ⟨y, hy, hvr⟩ := hAR.get hci
      cases hvr
      simp only [World.cell?, q2, hy]
      rfl
 ·injection e with e
  subst e
  have hf : Da l ops j = ⟨0, [], 0⟩ := by unfold Da; rw [if_neg hok]
  rw [hf]
  obtain ⟨y0, y1, rfl, h0, _⟩ := Fp hu
  obtain ⟨z0, z1, z2, rfl, g0, g1, g2⟩ := Ia h0
  cases g0; cases g1; cases g2
  exact ⟨none, 0, y1, rfl, Nat.le_refl _, by omega, fun a ha => (by cases ha), fun hn => (by simp at hn)⟩
section
variable {c : Cfg} {l : LL}
theorem Gw {ty : TypeId} {g : Nat} {w w1 : World} (h : Go.ConcN.WgLive ty g w) (e : w1.heap[g]? = w.heap[g]?) : Go.ConcN.WgLive ty g w1 := by
 obtain ⟨st, sm, h⟩ := h
 exact ⟨st, sm, h.of_block e⟩
theorem TZ (K : c.Ok0) {M : Nat → Prop} {w w1 : World} (h : Ay M w w1) (hM : ∀ b, M b → c.A.B0 ≤ b) (hB : c.A.B0 ≤ w.heap.size) (hS : c.Sh w) : c.Sh w1 := by
 have hb : ∀ b, b < c.A.B0 → w1.heap[b]? = w.heap[b]? := fun b hb => h.rest b (fun hm => by have := hM b hm; omega) (by omega)
 obtain ⟨h1, h2, h3⟩ := hS
 exact ⟨Gw h1 (hb _ K.area.wB), by rw [hb _ K.area.cB]; exact h2, K.csh w w1 h.size (fun b hb' _ _ => hb b hb') h3⟩
theorem Sl (K : c.Ok0) (k : LLR c l) {M : Nat → Prop} {w w1 : World} (h : Ay M w w1) (hM : ∀ b, M b → c.A.B0 ≤ b) (hB : c.A.B0 ≤ w.heap.size) (hS : LWK l w) : LWK l w1 := by
 have hb : ∀ b, c.A.R b → w1.heap[b]? = w.heap[b]? := fun b hR => by
  have := K.area.rB b hR
  exact h.rest b (fun hm => by have := hM b hm; omega) (by omega)
 exact ⟨(Cfg.cell_of (hb _ k.rk)).trans hS.keys, (Cfg.cell_of (hb _ k.ro)).trans hS.obj, (Cfg.cell_of (hb _ k.rp)).trans hS.parts, (Cfg.cell_of (hb _ k.rb)).trans hS.bud, (Cfg.cell_of (hb _ k.rf)).trans hS.found,
  fun j hj => (Cfg.cell_of (hb _ k.ra)).trans (hS.part j hj), k.kn _ _ h.size hb hS.kn⟩
variable {M : Nat → Prop} {w w1 : World} {v6 v8 v9 v10 v11 v12 v13 v14 v15 v16 v17 v18 v19 v20 v21 v22 v23 : Value} {d : List Deferred}
theorem AaR {A : Option Addr} {n cc : Nat} : (execOp (T4 l v6 v8 v9 v10 v11 v12 v13 (.int .i64 l.o) v15 v16 v17 (.slice A n cc) (.int .i64 l.bud) v20 v21 v22 v23 d).eval (o4 8)).run Tryd.prog w1 = .ok (.enter 6 #[.int .i64 l.o, .slice A n cc, .int .i64 l.bud]) w1 ∧
  ∀ e ∈ (execOp (T4 l v6 v8 v9 v10 v11 v12 v13 (.int .i64 l.o) v15 v16 v17 (.slice A n cc) (.int .i64 l.bud) v20 v21 v22 v23 d).eval (o4 8)).events Tryd.prog w1 #[], BZ M c.A.R e := by
 have hf := Tryd.func6
 unfold execOp
 simp only [o4, Bl, Bg, AP, Aw, AO, Tryd.f15, Option.getD_some]
 constructor
 ·simp [resolve, invoke, Deferred.ofValue, callFunc, hf, Tryd.f6, Act.eval]
 ·intro e he
  simp [resolve, invoke, Deferred.ofValue, callFunc, hf, Tryd.f6, Act.eval] at he
theorem AaF (K : c.Ok0) (k : LLR c l) {ops : Nat → List Op8} {D : Nat → Prop} (hkn : ∀ w, l.Kn w → KN4 c l ops D w) {j : Nat} (hj : j < l.m) {rest : List Nat} {kk : List Item} {Stop : (Nat → Prop) → Goroutine → World → Prop} (h : LWK l w) (hS : c.Sh w) (hM : ∀ b, M b → c.A.B0 ≤ b)
  (hnext : ∀ A cc x M' w', (∀ b, M b → M' b) → (∀ b, M' b → c.A.B0 ≤ b) → LWK l w' → c.Sh w' → Gt M' w' A cc (Da l ops j).ord →
   Own Tryd.prog false c.A.R c.Sh (fun _ => False) Stop M' (G (b15.at (T4 l v6 v8 v9 v10 v11 v12 v13 (.int .i64 l.o) v15 v16 v17 (l.part j) (.int .i64 l.bud) (.tuple #[QR (Da l ops j) A cc, x]) v21 v22 v23 d) (.inRegion Bl rest :: kk)) [C8]) w') :
  Own Tryd.prog false c.A.R c.Sh (fun _ => False) Stop M (G (b15.at (T4 l v6 v8 v9 v10 v11 v12 v13 (.int .i64 l.o) v15 v16 v17 (l.part j) (.int .i64 l.bud) v20 v21 v22 v23 d) (.inRegion Bl (8 :: rest) :: kk)) [C8]) w := by
 obtain ⟨A, n, cc, hp, hpD, hpO⟩ := (hkn w h.kn).part j hj
 rw [hp] at hnext ⊢
 refine Iy (OY (by omega)) (by simp [Region.wanted, o4, Bl, Bg, AP, Aw, AO, Tryd.f15]) (by simp [b15, baseD, base]) Tryd.func6 rfl (fun w1 r => AaR) fun w1 r => ?_
 have h1 : LWK l w1 := h.rely k r
 have hS1 : c.Sh w1 := r.sh hS
 have KN := hkn w1 h1.kn
 obtain ⟨A', n', cc', hp', hpD', hpO'⟩ := KN.part j hj
 rw [hp] at hp'
 injection hp' with e1 e2 e3
 subst e1; subst e2; subst e3
 refine UB (K := fun u v => ∃ t, IY l.o (ops j) BN l.bud (idv (SF lcS) D (w1.tp t)) (.returned u) v) (D := D) (fun w => LWK l w ∧ c.Sh w ∧ c.A.B0 ≤ w.heap.size) (fun M2 w2 w3 r2 hJ => ⟨hJ.1.rely k r2, r2.sh hJ.2.1, Nat.le_trans hJ.2.2 r2.size⟩)
  (fun M2 w2 w3 hM2 sp hJ => ?_) ⟨h1, hS1, KN.b0⟩ IJ Tryd.func6 rfl (by decide) KN.gsz (fun g hg => KN.glob g (by simpa [lcS] using hg)) ⟨KN.sub, KN.row⟩ (fun u hu => ?_) (fun t => ?_) ?_
 ·have hM3 : ∀ b, M2 b → c.A.B0 ≤ b := fun b hb => (hM2 b hb).elim (hM b) fun h => Nat.le_trans KN.b0 h
  exact ⟨Sl K k sp hM3 hJ.2.2 hJ.1, TZ K sp hM3 hJ.2.2 hJ.2.1, Nat.le_trans hJ.2.2 sp.size⟩
 ·simp only [List.mem_toArray, List.mem_cons, List.not_mem_nil, or_false] at hu
  rcases hu with rfl | rfl | rfl
  ·exact .int _ _
  ·cases A with
   | none => exact .slice0 _ _
   | some a => exact .slice _ _ ⟨FR (hpD' a rfl).1, rfl, rfl⟩
  ·exact .int _ _
 ·refine (Ki l.o A n cc (ops j) l.bud D _ (Fx t hpO') (Gi t KN.glob KN.kn)).mono fun e w' hh => ?_
  rcases hh with ⟨h2, A2, c2, rfl, h3⟩ | ⟨h2, ⟨x, hx, rfl⟩, h3⟩
  ·exact ⟨_, rfl, t, .inl ⟨h2, A2, c2, rfl, h3⟩⟩
  ·exact ⟨_, rfl, t, .inr ⟨h2, ⟨x, hx, rfl⟩, h3⟩⟩
 ·rintro π u u' v w2 M' hle hu ⟨t, hK⟩ hW hown hM0 hMb ⟨g1, g2, g3⟩
  obtain ⟨A2, c2, x, rfl, ho⟩ := VC KN K.area.rB hle hu hK hW hown
  rw [Frame.finish_at, OY (by omega)]
  have e : ((some (o4 8)).bind fun x => x.dst) = some 20 := by simp [o4, Bl, Bg, AP, Aw, AO, Tryd.f15]
  rw [e]
  exact hnext A2 c2 x M' w2 hM0 (fun b hb => (hMb b hb).elim (hM b) fun h => Nat.le_trans KN.b0 h) g1 g2 ho
end
theorem VL : Bg = .region 4 Bl true := by simp [Bl, Bg, AP, Aw, AO, Tryd.f15]
theorem Aaw : ∀ i, i < 14 → ∀ e ∈ (o4 i).after.toList, Region.binds .any e = true → e.on < i := by
 intro i hi e he hb
 match i, hi with
 | 0, _ | 1, _ | 2, _ | 3, _ | 4, _ | 5, _ | 6, _ | 7, _ | 8, _ | 9, _ | 10, _ | 11, _ | 12, _ | 13, _ =>
  simp [o4, Bl, Bg, AP, Aw, AO, Tryd.f15] at he
  try (rcases he with he | he | he | he | he | he | he | he | he | he | he | he | he | he | he | he | he)
  all_goals first
   | contradiction
   | (show (_ : Nat) < _; decide)
   | (exact absurd hb (by decide))
   | (subst he; first | (show (_ : Nat) < _; decide) | (exact absurd hb (by decide)))
theorem Uf {L : Array Bool} (h : L.size = 14) (hx : ¬ On L 13) : Region.ready .any Bl L ≠ [] := by
 have hex : ∃ i, i < 14 ∧ ¬ On L i := ⟨13, by omega, hx⟩
 obtain ⟨i, ⟨hi, hn⟩, hmin⟩ : ∃ i, (i < 14 ∧ ¬ On L i) ∧ ∀ j, j < i → On L j := by
  obtain ⟨i0, h0⟩ := hex
  have key : ∀ n i, i < n → i < 14 → ¬ On L i → ∃ i, (i < 14 ∧ ¬ On L i) ∧ ∀ j, j < i → On L j := by
   intro n
   induction n with
   | zero => intro i hi; omega
   | succ n ih =>
    intro i hi h14 hno
    by_cases hj : ∃ j, j < i ∧ ¬ On L j
    ·obtain ⟨j, hj, hjn⟩ := hj
     exact ih j (by omega) (by omega) hjn
    ·exact ⟨i, ⟨h14, hno⟩, fun j hj' => Classical.byContradiction fun hh => hj ⟨j, hj', hh⟩⟩
  exact key _ i0 (Nat.lt_succ_self _) h0.1 h0.2
 have : i ∈ Region.ready .any Bl L := mem_ready.2 ⟨by
  unfold On at hn
  rw [Array.getD_eq_getD_getElem?] at hn ⊢
  rw [Array.getElem?_eq_getElem (by omega)] at hn ⊢
  simpa using hn, o4 i, OY hi, fun e he hb => hmin _ (Aaw i hi e (by simpa using he) hb)⟩
 intro e
 rw [e] at this
 simp at this
section
variable {c : Cfg} {l : LL} {f : Nat → Found}
noncomputable abbrev kk4 : List Item := [.inBlock 1, .inLoop Aw, .inBlock 0]
abbrev d0 (l : LL) : List Deferred := [dcall 16 #[.pointer (some ⟨l.Wg, 0, none⟩)]]
theorem Fy {M R : Nat → Prop} {e : Event} (h : BZ none_ R e) : BZ M R e := by
 unfold BZ at h ⊢
 cases hl : e.loc with
 | cell a => rw [hl] at h; exact .inr (h.resolve_left id)
 | obj r => rw [hl] at h; exact h.elim
 | mark m => rw [hl] at h; exact h
 | _ => rw [hl] at h; exact h.elim
theorem Eu {P : Program} {main : Bool} {R : Nat → Prop} {Sh : World → Prop} {X : Event → Prop} {E : Event → Prop} (hE : ∀ e, E e → ∀ M, BZ M R e ∨ X e) {Rl : World → World → Prop} (hrl : ∀ M w w1, BS M R Sh w w1 → Rl w w1) {S : Goroutine → World → Prop} : ∀ {n : Nat} {M : Nat → Prop} {g : Goroutine} {w : World}, Goes P main Rl (fun w w' es => w' = w ∧ ∀ e ∈ es, E e) S n g w → Sh w → Own P main R Sh X (fun M' g w => M' = M ∧ S g w ∧ Sh w) M g w
 | 0, M, g, w, h, hS => .stop fun w1 hr => ⟨rfl, h w1 (hrl _ _ _ hr), hr.sh hS⟩
 | n + 1, M, g, w, h, hS => by
  rcases h with h | ⟨hs, h⟩
  ·exact .stop fun w1 hr => ⟨rfl, h w1 (hrl _ _ _ hr), hr.sh hS⟩
  ·refine Own.mk hs fun w1 hr => ?_
   have := h w1 (hrl _ _ _ hr)
   cases hg : stepG P main g w1 with
   | go g' w' es =>
    rw [hg, goes_go] at this
    obtain ⟨⟨e1, e2⟩, hn⟩ := this; subst e1
    refine ⟨g', w', es, rfl, Ay.refl _ _, fun e he => hE e (e2 e he) _, ?_⟩
    rw [BU]
    exact Eu hE hrl hn (hr.sh hS)
   | _ => rw [hg] at this; exact this.elim
def J4 (c : Cfg) (l : LL) (L : Array Bool) (a : Act) (w : World) : Prop :=
 Cl4 L ∧ LWK l w ∧ c.Sh w ∧ ∃ (x y : Value) (v8 v9 v10 v12 v13 v14 v15 v16 v17 v18 v19 v20 v21 v22 v23 : Value) (j : Nat), a = T4 l (.int .i64 j) v8 v9 v10 (.tuple #[x, y]) v12 v13 v14 v15 v16 v17 v18 v19 v20 v21 v22 v23 (d0 l)
def HS (c : Cfg) (l : LL) (M : Nat → Prop) (g : Goroutine) (w : World) : Prop := M = none_ ∧ Og l g w ∧ c.Sh w
structure Hk (c : Cfg) (l : LL) (f : Nat → Found) : Prop where
 mine : ∀ j, j < l.m → ∀ i, i < 3 → c.A.Mine j ⟨l.C, 3 * j + i, none⟩
 csh : ∀ w j x y z, j < l.m → c.CSh w → c.CSh (Gh l j x y z w)
 blk : ∀ w, c.CSh w → ∃ cs e, w.heap[l.C]? = some (.cells cs e (0, 0)) ∧ 3 * l.m ≤ cs.size
 res : ∀ j M w A cc, j < l.m → w.cell? ⟨l.C, 3 * j, none⟩ = some (.int .i64 (f j).code) → w.cell? ⟨l.C, 3 * j + 1, none⟩ = some (.slice A (f j).ord.length cc) → w.cell? ⟨l.C, 3 * j + 2, none⟩ = some (.int .i64 (f j).ent) → Gt M w A cc (f j).ord → c.Res j M w
 head : ∀ g w, c.WO (HS c l) g w → c.Head g w
theorem MR (j : Nat) (x y z : Value) (w : World) : (Gh l j x y z w).heap.size = w.heap.size ∧ ∀ b, b ≠ l.C → (Gh l j x y z w).heap[b]? = w.heap[b]? := by
 unfold Gh
 refine ⟨by simp [World.setCell], fun b hb => ?_⟩
 rw [CX _ _ _ _ hb, CX _ _ _ _ hb, CX _ _ _ _ hb]
theorem QA {j : Nat} {x y z : Value} {w : World} {cs : Array Value} {e : TypeId} (hC : w.heap[l.C]? = some (.cells cs e (0, 0))) (hn : 3 * j + 3 ≤ cs.size) (h1 : #[x, y, z].toList.all (·.oneCell') = true) :
  ∃ cs', (Gh l j x y z w).heap[l.C]? = some (.cells cs' e (0, 0)) ∧ cs'.size = cs.size ∧ (∀ i, i ≠ 3 * j → i ≠ 3 * j + 1 → i ≠ 3 * j + 2 → cs'[i]? = cs[i]?) ∧ cs'[3 * j]? = some x ∧ cs'[3 * j + 1]? = some y ∧ cs'[3 * j + 2]? = some z := by
 simp only [List.all_cons, List.all_nil, Bool.and_true, Bool.and_eq_true] at h1
 obtain ⟨_, _, s1⟩ := JH (P := Tryd.prog) (v := x) hC (show 3 * j < cs.size by omega) h1.1
 obtain ⟨_, _, s2⟩ := JH (P := Tryd.prog) (v := y) s1 (show 3 * j + 1 < _ by simp; omega) h1.2.1
 obtain ⟨_, _, s3⟩ := JH (P := Tryd.prog) (v := z) s2 (show 3 * j + 2 < _ by simp; omega) h1.2.2
 refine ⟨_, s3, by simp, fun i h2 h3 h4 => ?_, ?_, ?_, ?_⟩
 ·rw [Array.getElem?_setIfInBounds, if_neg (by omega), Array.getElem?_setIfInBounds, if_neg (by omega), Array.getElem?_setIfInBounds, if_neg (by omega)]
 ·rw [Array.getElem?_setIfInBounds, if_neg (by omega), Array.getElem?_setIfInBounds, if_neg (by omega), Array.getElem?_setIfInBounds, if_pos rfl, if_pos (by omega)]
 ·rw [Array.getElem?_setIfInBounds, if_neg (by omega), Array.getElem?_setIfInBounds, if_pos rfl, if_pos (by simp; omega)]
 ·rw [Array.getElem?_setIfInBounds, if_pos rfl, if_pos (by simp; omega)]
end
section
variable {c : Cfg} {l : LL}
theorem YF (K : c.Ok0) (k : LLR c l) {f : Nat → Found} (H : Hk c l f) (hP : c.P = Tryd.prog) {j : Nat} (hj : j < l.m) {rest : List Nat} {M : Nat → Prop} {w : World} {A : Option Addr} {cc : Nat} {v8 v9 v10 v11 v12 v13 v14 v15 v16 v17 v18 v19 v20 v22 : Value}
  (h : LWK l w) (hS : c.Sh w) (hM : ∀ b, M b → c.A.B0 ≤ b) (hB : c.A.B0 ≤ w.heap.size) (ho : Gt M w A cc (f j).ord)
  (hnext : ∀ w', LWK l w' → c.Sh w' → c.WO (HS c l) (G (b15.at (T4 l (.int .i64 j) v8 v9 v10 v11 v12 v13 v14 v15 v16 v17 v18 v19 v20 (QR (f j) A cc) v22 (.pointer (some ⟨l.C, 3 * j, none⟩)) (d0 l)) (.inRegion Bl rest :: kk4)) [C8]) w') :
  c.EA j M (G (b15.at (T4 l (.int .i64 j) v8 v9 v10 v11 v12 v13 v14 v15 v16 v17 v18 v19 v20 (QR (f j) A cc) v22 (.pointer (some ⟨l.C, 3 * j, none⟩)) (d0 l)) (.inRegion Bl (13 :: rest) :: kk4)) [C8]) w := by
 obtain ⟨cs, e, hC, hn⟩ := H.blk w hS.2.2
 have h1 : #[Value.int .i64 (f j).code, .slice A (f j).ord.length cc, .int .i64 (f j).ent].toList.all (·.oneCell') = true := by simp [Value.oneCell']
 obtain ⟨hr, hev⟩ := Aat (l := l) (v6 := .int .i64 j) (v8 := v8) (v9 := v9) (v10 := v10) (v11 := v11) (v12 := v12) (v13 := v13) (v14 := v14) (v15 := v15) (v16 := v16) (v17 := v17) (v18 := v18) (v19 := v19) (v20 := v20) (v22 := v22) (d := d0 l) (j := j) hC (by omega) h1
 obtain ⟨cs', hC', hsz', hoth, g0, g1, g2⟩ := QA (j := j) hC (by omega) h1
 obtain ⟨hsz, hfar⟩ := MR (l := l) j (.int .i64 (f j).code) (.slice A (f j).ord.length cc) (.int .i64 (f j).ent) w
 have hst := stepG_none (P := Tryd.prog) (main := false) (b := b15) (k := kk4) (cs := [C8]) (rest := rest) (OY (show 13 < 14 by omega)) (by simp [Region.wanted, o4, Bl, Bg, AP, Aw, AO, Tryd.f15]) (by simp [b15, baseD, base]) hr
 have hdst : (o4 13).dst = none := by simp [o4, Bl, Bg, AP, Aw, AO, Tryd.f15]
 rw [hdst] at hst
 have hmB := K.area.mB j _ (H.mine j hj 0 (by omega))
 have hCB : l.C < c.A.B0 := hmB.1
 have hcsh : c.CSh (Gh l j (.int .i64 (f j).code) (.slice A (f j).ord.length cc) (.int .i64 (f j).ent) w) := H.csh w j _ _ _ hj hS.2.2
 have hSh : c.Sh (Gh l j (.int .i64 (f j).code) (.slice A (f j).ord.length cc) (.int .i64 (f j).ent) w) :=
  ⟨Gw hS.1 (hfar _ (Ne.symm hmB.2.1)), by rw [hfar _ (Ne.symm hmB.2.2)]; exact hS.2.1, hcsh⟩
 have hRC : ∀ b, c.A.R b → b ≠ l.C := fun b hb e => K.area.rM j _ (H.mine j hj 0 (by omega)) (e ▸ hb)
 have hbR : ∀ b, c.A.R b → (Gh l j (.int .i64 (f j).code) (.slice A (f j).ord.length cc) (.int .i64 (f j).ent) w).heap[b]? = w.heap[b]? := fun b hb => hfar b (hRC b hb)
 have hK' : LWK l (Gh l j (.int .i64 (f j).code) (.slice A (f j).ord.length cc) (.int .i64 (f j).ent) w) :=
  ⟨(Cfg.cell_of (hbR _ k.rk)).trans h.keys, (Cfg.cell_of (hbR _ k.ro)).trans h.obj, (Cfg.cell_of (hbR _ k.rp)).trans h.parts, (Cfg.cell_of (hbR _ k.rb)).trans h.bud, (Cfg.cell_of (hbR _ k.rf)).trans h.found,
   fun i hi => (Cfg.cell_of (hbR _ k.ra)).trans (h.part i hi), k.kn _ _ (Nat.le_of_eq hsz.symm) hbR h.kn⟩
 refine ⟨rfl, _, _, _, by rw [hP]; exact hst, ⟨hsz, fun b hb => hfar b (fun e => hb _ (H.mine j hj 0 (by omega)) (by rw [e])), fun a ha => ?_, rfl, rfl, rfl⟩, fun ev he => ?_, hcsh, ?_, ?_⟩
 ·by_cases hb : a.block = l.C
  ·obtain ⟨ab, ao, asp⟩ := a
   dsimp only at hb
   subst hb
   simp only [World.cell?, hC', hC]
   cases asp with
   | some s => rfl
   | none =>
    simp only [Option.isSome_none, Bool.false_eq_true, if_false]
    refine hoth ao (fun e => ha (e ▸ H.mine j hj 0 (by omega))) (fun e => ha (e ▸ H.mine j hj 1 (by omega))) (fun e => ha (e ▸ H.mine j hj 2 (by omega)))
  ·exact Cfg.cell_of (hfar _ hb)
 ·obtain ⟨i, hi, e⟩ := hev ev (mem_listed he)
  exact ⟨_, e, H.mine j hj i hi⟩
 ·refine H.res j M _ A cc hj ?_ ?_ ?_ (ho.keep (fun _ h => h) fun b hb => hfar b (fun e => by have := hM b hb; omega))
  ·simp only [World.cell?, hC', g0]; rfl
  ·simp only [World.cell?, hC', g1]; rfl
  ·simp only [World.cell?, hC', g2]; rfl
 ·exact H.head _ _ (hnext _ hK' hSh)
theorem AaK (hP : c.P = Tryd.prog) (k : LLR c l) {L : Array Bool} {a : Act} {w : World} (h : J4 c l L a w) : c.WO (HS c l) (G (b15.at a (.inRegion Bl [] :: kk4)) [C8]) w := by
 obtain ⟨_, hK, hS, x, y, v8, v9, v10, v12, v13, v14, v15, v16, v17, v18, v19, v20, v21, v22, v23, j, rfl⟩ := h
 have key : Goes Tryd.prog false (c.Rel none_) (DW c) (Og l) 10 (G (b15.at (T4 l (.int .i64 j) v8 v9 v10 (.tuple #[x, y]) v12 v13 v14 v15 v16 v17 v18 v19 v20 v21 v22 v23 (d0 l)) (.inRegion Bl [] :: kk4)) [C8]) w := ?_
 ·unfold Cfg.WO
  rw [hP]
  exact Eu (E := BZ none_ c.A.R) (fun e h M => .inl (Fy h)) (fun M w w1 h => Cfg.Df h) key hS
 refine Dn (fun _ _ _ h => Jy h) ?_
 u_c stepG_region_end (kw k) hK
 u_c stepG_inBlock (kw k) hK
 u_c stepG_inLoop (kw k) hK
 exact Goes.stop fun w₂ h₂ => ⟨_, _, _, _, _, _, _, _, _, _, _, _, _, _, _, _, _, rfl, kw k hK h₂⟩
end
section
variable {c : Cfg} {l : LL}
theorem Wv (i : Nat) (hi : i < 14) (y : Nat → Option Bool) : Region.wanted (o4 i) y = true := by
 match i, hi with
 | 0, _ | 1, _ | 2, _ | 3, _ | 4, _ | 5, _ | 6, _ | 7, _ | 8, _ | 9, _ | 10, _ | 11, _ | 12, _ | 13, _ => simp [Region.wanted, o4, Bl, Bg, AP, Aw, AO, Tryd.f15]
theorem Za : b15.kind ≠ .early := by simp [b15, baseD, base]
theorem I1 {Stop : (Nat → Prop) → Goroutine → World → Prop} {M : Nat → Prop} {w : World} {i : Nat} {rest : List Nat} {a : Act} {v : Value} (hi : i < 14) (hr : ∀ w1, c.Rel M w w1 → Cz c M a i v w1)
  (h : Own Tryd.prog false c.A.R c.Sh (fun _ => False) Stop M (G (b15.at (a.put (o4 i).dst v) (.inRegion Bl rest :: kk4)) [C8]) w) : Own Tryd.prog false c.A.R c.Sh (fun _ => False) Stop M (G (b15.at a (.inRegion Bl (i :: rest) :: kk4)) [C8]) w :=
 Kc (OY hi) (Wv i hi _) Za hr h
theorem Zq : (o4 0).dst = some 12 := by simp [o4, Bl, Bg, AP, Aw, AO, Tryd.f15]
theorem Zp : (o4 1).dst = some 13 := by simp [o4, Bl, Bg, AP, Aw, AO, Tryd.f15]
theorem Zo : (o4 2).dst = some 14 := by simp [o4, Bl, Bg, AP, Aw, AO, Tryd.f15]
theorem Zn : (o4 3).dst = some 15 := by simp [o4, Bl, Bg, AP, Aw, AO, Tryd.f15]
theorem Zm : (o4 4).dst = some 16 := by simp [o4, Bl, Bg, AP, Aw, AO, Tryd.f15]
theorem Zl : (o4 5).dst = some 17 := by simp [o4, Bl, Bg, AP, Aw, AO, Tryd.f15]
theorem Zk : (o4 6).dst = some 18 := by simp [o4, Bl, Bg, AP, Aw, AO, Tryd.f15]
theorem Zj : (o4 7).dst = some 19 := by simp [o4, Bl, Bg, AP, Aw, AO, Tryd.f15]
theorem Zi : (o4 9).dst = some 11 := by simp [o4, Bl, Bg, AP, Aw, AO, Tryd.f15]
theorem XK : (o4 10).dst = some 21 := by simp [o4, Bl, Bg, AP, Aw, AO, Tryd.f15]
theorem Rw : (o4 11).dst = some 22 := by simp [o4, Bl, Bg, AP, Aw, AO, Tryd.f15]
theorem XJ : (o4 12).dst = some 23 := by simp [o4, Bl, Bg, AP, Aw, AO, Tryd.f15]
noncomputable abbrev W4 (c : Cfg) (Stop : (Nat → Prop) → Goroutine → World → Prop) (rest : List Nat) (a : Act) (M : Nat → Prop) (w : World) : Prop :=
 Own Tryd.prog false c.A.R c.Sh (fun _ => False) Stop M (G (b15.at a (.inRegion Bl rest :: kk4)) [C8]) w
theorem WY (K : c.Ok0) (k : LLR c l) {ops : Nat → List Op8} {D : Nat → Prop} (hkn : ∀ w, l.Kn w → KN4 c l ops D w) (H : Hk c l (Da l ops)) (hP : c.P = Tryd.prog) {j : Nat} (hj : j < l.m) {g : Goroutine} {w : World} (h : At4 l j g w) (hS : c.Sh w) :
  Own Tryd.prog false c.A.R c.Sh (fun _ => False) (c.EA j) none_ g w := by
 obtain ⟨v8, v9, v10, v11, v12, v13, v14, v15, v16, v17, v18, v19, v20, v21, v22, v23, rfl, hK⟩ := h
 rw [VL]
 refine Sb (by rfl) fun w1 hr t w2 hw2 => ?_
 have hK2 : LWK l w2 := by
  have := hK.rely k hr
  rcases hw2 with rfl | rfl
  ·exact this
  ·exact ⟨this.keys, this.obj, this.parts, this.bud, this.found, this.part, k.kn w1 _ (Nat.le_refl _) (fun _ _ => rfl) this.kn⟩
 have hS2 : c.Sh w2 := by
  have := hr.sh hS
  rcases hw2 with rfl | rfl
  ·exact this
  ·exact ⟨Gw this.1 rfl, this.2.1, K.csh w1 _ (Nat.le_refl _) (fun _ _ _ _ => rfl) this.2.2⟩
 have hx : ∀ i, ¬ On (Array.replicate Bl.size false) i := fun i hi => by
  unfold On at hi
  rw [Array.getD_eq_getD_getElem?, Array.getElem?_replicate] at hi
  split at hi <;> simp at hi
 have hn : (Array.replicate Bl.size false).size = 14 := by simp [Bl, Bg, AP, Aw, AO, Tryd.f15]
 have hcl : Cl4 (Array.replicate Bl.size false) := ⟨hn, fun h => absurd h (hx _), fun h => absurd h (hx _), fun h => absurd h (hx _), fun h => absurd h (hx _), fun h => absurd h (hx _), fun h => absurd h (hx _), fun h => absurd h (hx _), fun h => absurd h (hx _)⟩
 refine (R4 (ops := Bl) (fun L a M w => (¬ On L 13 → I4 c l (Da l ops) j L a M w) ∧ (On L 13 → J4 c l L a w))
  (fun L rest a M w => (¬ On L 13 → W4 c (c.EA j) rest a M w) ∧ (On L 13 → W4 c (HS c l) rest a none_ w)) ?_ ?_ Bl.size t _ _ none_ w2 (by simp [unl])
  ⟨fun _ => ⟨hcl, hK2, hS2, fun b hb => hb.elim, none, 0, .nilIface, _, _, _, _, _, _, _, _, _, _, _, _, _, _, _, _, rfl, fun h => absurd h (hx _), fun h => absurd h (hx _), fun h => absurd h (hx _), fun h => absurd h (hx _), fun h => absurd h (hx _), fun h => absurd h (hx _),
   fun h => absurd h (hx _), fun h => absurd h (hx _), fun h => absurd h (hx _), fun h => absurd h (hx _), fun h => absurd h (hx _), fun h => absurd h (hx _)⟩, fun h => absurd h (hx _)⟩).1 (hx 13)
 ·intro L a M w he ⟨hI, hJ⟩
  refine ⟨fun h13 => absurd he (Uf (hI h13).1.n h13), fun h13 => ?_⟩
  have := AaK hP k (hJ h13)
  unfold Cfg.WO at this
  rw [hP] at this
  exact this
 ·intro L a M w i rest hi ⟨hI, hJ⟩ hnext
  obtain ⟨hni, hm⟩ := YS hi
  have hlt : i < 14 := by
   match i, hm with
   | 0, _ | 1, _ | 2, _ | 3, _ | 4, _ | 5, _ | 6, _ | 7, _ | 8, _ | 9, _ | 10, _ | 11, _ | 12, _ | 13, _ => omega
  refine ⟨fun h13 => ?_, fun h13 => ?_⟩
  ·have hI0 := hI h13
   obtain ⟨hc, hK, hS, hM, A, cc, x, v8, v9, v10, v11, v12, v13, v14, v15, v16, v17, v18, v19, v20, v21, v22, v23, rfl, g0, g1, g2, g3, g4, g5, g6, g7, g8, g9, g10, g12⟩ := hI0
   have hc' := hc.step hm hlt
   have e : ∀ q, On (L.setIfInBounds i true) q ↔ q = i ∨ On L q := fun q => Qx (by rw [hc.n]; exact hlt)
   clear hI hJ
   match i, hlt with
   | 0, _ =>
    simp only [FX] at hm
    refine I1 (by omega) (fun w1 r => by
     have hK1 := hK.rely k r
     exact AaZ k hK1) ?_
    rw [Zq]
    exact (hnext _ M w ⟨fun _ => ⟨hc', hK, hS, hM, A, cc, x, _, _, _, _, _, _, _, _, _, _, _, _, _, _, _, _, rfl, fun _ => rfl, fun h => g1 (((e 1).1 h).resolve_left (by omega)), fun h => g2 (((e 2).1 h).resolve_left (by omega)), fun h => g3 (((e 3).1 h).resolve_left (by omega)), fun h => g4 (((e 4).1 h).resolve_left (by omega)), fun h => g5 (((e 5).1 h).resolve_left (by omega)), fun h => g6 (((e 6).1 h).resolve_left (by omega)), fun h => g7 (((e 7).1 h).resolve_left (by omega)), fun h => g8 (((e 8).1 h).resolve_left (by omega)), fun h => g9 (((e 9).1 h).resolve_left (by omega)), fun h => g10 (((e 10).1 h).resolve_left (by omega)), fun h => g12 (((e 12).1 h).resolve_left (by omega))⟩, fun h => absurd (((e 13).1 h).resolve_left (by omega)) h13⟩).1 (fun h => h13 (((e 13).1 h).resolve_left (by omega)))
   | 1, _ =>
    simp only [FX] at hm
    refine I1 (by omega) (fun w1 r => by
     have hK1 := hK.rely k r
     exact AaY k hK1) ?_
    rw [Zp]
    exact (hnext _ M w ⟨fun _ => ⟨hc', hK, hS, hM, A, cc, x, _, _, _, _, _, _, _, _, _, _, _, _, _, _, _, _, rfl, fun h => g0 (((e 0).1 h).resolve_left (by omega)), fun _ => rfl, fun h => g2 (((e 2).1 h).resolve_left (by omega)), fun h => g3 (((e 3).1 h).resolve_left (by omega)), fun h => g4 (((e 4).1 h).resolve_left (by omega)), fun h => g5 (((e 5).1 h).resolve_left (by omega)), fun h => g6 (((e 6).1 h).resolve_left (by omega)), fun h => g7 (((e 7).1 h).resolve_left (by omega)), fun h => g8 (((e 8).1 h).resolve_left (by omega)), fun h => g9 (((e 9).1 h).resolve_left (by omega)), fun h => g10 (((e 10).1 h).resolve_left (by omega)), fun h => g12 (((e 12).1 h).resolve_left (by omega))⟩, fun h => absurd (((e 13).1 h).resolve_left (by omega)) h13⟩).1 (fun h => h13 (((e 13).1 h).resolve_left (by omega)))
   | 2, _ =>
    simp only [FX] at hm
    refine I1 (by omega) (fun w1 r => by
     have hK1 := hK.rely k r
     exact AaX k hK1) ?_
    rw [Zo]
    exact (hnext _ M w ⟨fun _ => ⟨hc', hK, hS, hM, A, cc, x, _, _, _, _, _, _, _, _, _, _, _, _, _, _, _, _, rfl, fun h => g0 (((e 0).1 h).resolve_left (by omega)), fun h => g1 (((e 1).1 h).resolve_left (by omega)), fun _ => rfl, fun h => g3 (((e 3).1 h).resolve_left (by omega)), fun h => g4 (((e 4).1 h).resolve_left (by omega)), fun h => g5 (((e 5).1 h).resolve_left (by omega)), fun h => g6 (((e 6).1 h).resolve_left (by omega)), fun h => g7 (((e 7).1 h).resolve_left (by omega)), fun h => g8 (((e 8).1 h).resolve_left (by omega)), fun h => g9 (((e 9).1 h).resolve_left (by omega)), fun h => g10 (((e 10).1 h).resolve_left (by omega)), fun h => g12 (((e 12).1 h).resolve_left (by omega))⟩, fun h => absurd (((e 13).1 h).resolve_left (by omega)) h13⟩).1 (fun h => h13 (((e 13).1 h).resolve_left (by omega)))
   | 3, _ =>
    simp only [FX] at hm
    refine I1 (by omega) (fun w1 r => by
     have hK1 := hK.rely k r
     exact AaW k hK1) ?_
    rw [Zn]
    exact (hnext _ M w ⟨fun _ => ⟨hc', hK, hS, hM, A, cc, x, _, _, _, _, _, _, _, _, _, _, _, _, _, _, _, _, rfl, fun h => g0 (((e 0).1 h).resolve_left (by omega)), fun h => g1 (((e 1).1 h).resolve_left (by omega)), fun h => g2 (((e 2).1 h).resolve_left (by omega)), fun _ => rfl, fun h => g4 (((e 4).1 h).resolve_left (by omega)), fun h => g5 (((e 5).1 h).resolve_left (by omega)), fun h => g6 (((e 6).1 h).resolve_left (by omega)), fun h => g7 (((e 7).1 h).resolve_left (by omega)), fun h => g8 (((e 8).1 h).resolve_left (by omega)), fun h => g9 (((e 9).1 h).resolve_left (by omega)), fun h => g10 (((e 10).1 h).resolve_left (by omega)), fun h => g12 (((e 12).1 h).resolve_left (by omega))⟩, fun h => absurd (((e 13).1 h).resolve_left (by omega)) h13⟩).1 (fun h => h13 (((e 13).1 h).resolve_left (by omega)))
   | 4, _ =>
    simp only [FX] at hm
    refine I1 (by omega) (fun w1 r => by
     have hK1 := hK.rely k r
     exact AaV k hK1) ?_
    rw [Zm]
    exact (hnext _ M w ⟨fun _ => ⟨hc', hK, hS, hM, A, cc, x, _, _, _, _, _, _, _, _, _, _, _, _, _, _, _, _, rfl, fun h => g0 (((e 0).1 h).resolve_left (by omega)), fun h => g1 (((e 1).1 h).resolve_left (by omega)), fun h => g2 (((e 2).1 h).resolve_left (by omega)), fun h => g3 (((e 3).1 h).resolve_left (by omega)), fun _ => rfl, fun h => g5 (((e 5).1 h).resolve_left (by omega)), fun h => g6 (((e 6).1 h).resolve_left (by omega)), fun h => g7 (((e 7).1 h).resolve_left (by omega)), fun h => g8 (((e 8).1 h).resolve_left (by omega)), fun h => g9 (((e 9).1 h).resolve_left (by omega)), fun h => g10 (((e 10).1 h).resolve_left (by omega)), fun h => g12 (((e 12).1 h).resolve_left (by omega))⟩, fun h => absurd (((e 13).1 h).resolve_left (by omega)) h13⟩).1 (fun h => h13 (((e 13).1 h).resolve_left (by omega)))
   | 5, _ =>
    simp only [FX] at hm
    have e_v15 := g3 hm.1
    subst e_v15
    have e_v16 := g4 hm.2
    subst e_v16
    refine I1 (by omega) (fun w1 r => by
     have hK1 := hK.rely k r
     exact AaU k hK1 hj) ?_
    rw [Zl]
    exact (hnext _ M w ⟨fun _ => ⟨hc', hK, hS, hM, A, cc, x, _, _, _, _, _, _, _, _, _, _, _, _, _, _, _, _, rfl, fun h => g0 (((e 0).1 h).resolve_left (by omega)), fun h => g1 (((e 1).1 h).resolve_left (by omega)), fun h => g2 (((e 2).1 h).resolve_left (by omega)), fun h => g3 (((e 3).1 h).resolve_left (by omega)), fun h => g4 (((e 4).1 h).resolve_left (by omega)), fun _ => rfl, fun h => g6 (((e 6).1 h).resolve_left (by omega)), fun h => g7 (((e 7).1 h).resolve_left (by omega)), fun h => g8 (((e 8).1 h).resolve_left (by omega)), fun h => g9 (((e 9).1 h).resolve_left (by omega)), fun h => g10 (((e 10).1 h).resolve_left (by omega)), fun h => g12 (((e 12).1 h).resolve_left (by omega))⟩, fun h => absurd (((e 13).1 h).resolve_left (by omega)) h13⟩).1 (fun h => h13 (((e 13).1 h).resolve_left (by omega)))
   | 6, _ =>
    simp only [FX] at hm
    have e_v17 := g5 hm
    subst e_v17
    refine I1 (by omega) (fun w1 r => by
     have hK1 := hK.rely k r
     exact AaT k hK1 hj) ?_
    rw [Zk]
    exact (hnext _ M w ⟨fun _ => ⟨hc', hK, hS, hM, A, cc, x, _, _, _, _, _, _, _, _, _, _, _, _, _, _, _, _, rfl, fun h => g0 (((e 0).1 h).resolve_left (by omega)), fun h => g1 (((e 1).1 h).resolve_left (by omega)), fun h => g2 (((e 2).1 h).resolve_left (by omega)), fun h => g3 (((e 3).1 h).resolve_left (by omega)), fun h => g4 (((e 4).1 h).resolve_left (by omega)), fun h => g5 (((e 5).1 h).resolve_left (by omega)), fun _ => rfl, fun h => g7 (((e 7).1 h).resolve_left (by omega)), fun h => g8 (((e 8).1 h).resolve_left (by omega)), fun h => g9 (((e 9).1 h).resolve_left (by omega)), fun h => g10 (((e 10).1 h).resolve_left (by omega)), fun h => g12 (((e 12).1 h).resolve_left (by omega))⟩, fun h => absurd (((e 13).1 h).resolve_left (by omega)) h13⟩).1 (fun h => h13 (((e 13).1 h).resolve_left (by omega)))
   | 7, _ =>
    simp only [FX] at hm
    refine I1 (by omega) (fun w1 r => by
     have hK1 := hK.rely k r
     exact AaS k hK1) ?_
    rw [Zj]
    exact (hnext _ M w ⟨fun _ => ⟨hc', hK, hS, hM, A, cc, x, _, _, _, _, _, _, _, _, _, _, _, _, _, _, _, _, rfl, fun h => g0 (((e 0).1 h).resolve_left (by omega)), fun h => g1 (((e 1).1 h).resolve_left (by omega)), fun h => g2 (((e 2).1 h).resolve_left (by omega)), fun h => g3 (((e 3).1 h).resolve_left (by omega)), fun h => g4 (((e 4).1 h).resolve_left (by omega)), fun h => g5 (((e 5).1 h).resolve_left (by omega)), fun h => g6 (((e 6).1 h).resolve_left (by omega)), fun _ => rfl, fun h => g8 (((e 8).1 h).resolve_left (by omega)), fun h => g9 (((e 9).1 h).resolve_left (by omega)), fun h => g10 (((e 10).1 h).resolve_left (by omega)), fun h => g12 (((e 12).1 h).resolve_left (by omega))⟩, fun h => absurd (((e 13).1 h).resolve_left (by omega)) h13⟩).1 (fun h => h13 (((e 13).1 h).resolve_left (by omega)))
   | 8, _ =>
    simp only [FX] at hm
    have e_v14 := g2 hm.1
    have e_v18 := g6 hm.2.1
    have e_v19 := g7 hm.2.2
    subst e_v14
    subst e_v18
    subst e_v19
    refine AaF K k hkn hj hK hS hM fun A' cc' x' M' w' hMM hM' hK' hS' ho => ?_
    exact (hnext _ M' w' ⟨fun _ => ⟨hc', hK', hS', hM', A', cc', x', _, _, _, _, _, _, _, _, _, _, _, _, _, _, _, _, rfl, fun h => g0 (((e 0).1 h).resolve_left (by omega)), fun h => g1 (((e 1).1 h).resolve_left (by omega)), fun h => g2 (((e 2).1 h).resolve_left (by omega)), fun h => g3 (((e 3).1 h).resolve_left (by omega)), fun h => g4 (((e 4).1 h).resolve_left (by omega)), fun h => g5 (((e 5).1 h).resolve_left (by omega)), fun h => g6 (((e 6).1 h).resolve_left (by omega)), fun h => g7 (((e 7).1 h).resolve_left (by omega)), fun _ => ⟨rfl, ho⟩, fun h => absurd (hc.h9 (((e 9).1 h).resolve_left (by omega))) hni, fun h => absurd (hc.h9 (hc.h10 (((e 10).1 h).resolve_left (by omega)))) hni, fun h => g12 (((e 12).1 h).resolve_left (by omega))⟩, fun h => absurd (((e 13).1 h).resolve_left (by omega)) h13⟩).1 (fun h => h13 (((e 13).1 h).resolve_left (by omega)))
   | 9, _ =>
    simp only [FX] at hm
    have e_v20 := (g8 hm).1
    subst e_v20
    refine I1 (by omega) (fun w1 r => by
     have hK1 := hK.rely k r
     exact AaQ k hK1) ?_
    rw [Zi]
    exact (hnext _ M w ⟨fun _ => ⟨hc', hK, hS, hM, A, cc, x, _, _, _, _, _, _, _, _, _, _, _, _, _, _, _, _, rfl, fun h => g0 (((e 0).1 h).resolve_left (by omega)), fun h => g1 (((e 1).1 h).resolve_left (by omega)), fun h => g2 (((e 2).1 h).resolve_left (by omega)), fun h => g3 (((e 3).1 h).resolve_left (by omega)), fun h => g4 (((e 4).1 h).resolve_left (by omega)), fun h => g5 (((e 5).1 h).resolve_left (by omega)), fun h => g6 (((e 6).1 h).resolve_left (by omega)), fun h => g7 (((e 7).1 h).resolve_left (by omega)), fun h => g8 (((e 8).1 h).resolve_left (by omega)), fun _ => rfl, fun h => g10 (((e 10).1 h).resolve_left (by omega)), fun h => g12 (((e 12).1 h).resolve_left (by omega))⟩, fun h => absurd (((e 13).1 h).resolve_left (by omega)) h13⟩).1 (fun h => h13 (((e 13).1 h).resolve_left (by omega)))
   | 10, _ =>
    simp only [FX] at hm
    have e_v11 := g9 hm
    subst e_v11
    refine I1 (by omega) (fun w1 r => by
     have hK1 := hK.rely k r
     exact Aav k hK1) ?_
    rw [XK]
    exact (hnext _ M w ⟨fun _ => ⟨hc', hK, hS, hM, A, cc, x, _, _, _, _, _, _, _, _, _, _, _, _, _, _, _, _, rfl, fun h => g0 (((e 0).1 h).resolve_left (by omega)), fun h => g1 (((e 1).1 h).resolve_left (by omega)), fun h => g2 (((e 2).1 h).resolve_left (by omega)), fun h => g3 (((e 3).1 h).resolve_left (by omega)), fun h => g4 (((e 4).1 h).resolve_left (by omega)), fun h => g5 (((e 5).1 h).resolve_left (by omega)), fun h => g6 (((e 6).1 h).resolve_left (by omega)), fun h => g7 (((e 7).1 h).resolve_left (by omega)), fun h => g8 (((e 8).1 h).resolve_left (by omega)), fun h => g9 (((e 9).1 h).resolve_left (by omega)), fun _ => rfl, fun h => g12 (((e 12).1 h).resolve_left (by omega))⟩, fun h => absurd (((e 13).1 h).resolve_left (by omega)) h13⟩).1 (fun h => h13 (((e 13).1 h).resolve_left (by omega)))
   | 11, _ =>
    simp only [FX] at hm
    have e_v11 := g9 hm
    subst e_v11
    refine I1 (by omega) (fun w1 r => by
     have hK1 := hK.rely k r
     exact Yp k hK1) ?_
    rw [Rw]
    exact (hnext _ M w ⟨fun _ => ⟨hc', hK, hS, hM, A, cc, x, _, _, _, _, _, _, _, _, _, _, _, _, _, _, _, _, rfl, fun h => g0 (((e 0).1 h).resolve_left (by omega)), fun h => g1 (((e 1).1 h).resolve_left (by omega)), fun h => g2 (((e 2).1 h).resolve_left (by omega)), fun h => g3 (((e 3).1 h).resolve_left (by omega)), fun h => g4 (((e 4).1 h).resolve_left (by omega)), fun h => g5 (((e 5).1 h).resolve_left (by omega)), fun h => g6 (((e 6).1 h).resolve_left (by omega)), fun h => g7 (((e 7).1 h).resolve_left (by omega)), fun h => g8 (((e 8).1 h).resolve_left (by omega)), fun h => g9 (((e 9).1 h).resolve_left (by omega)), fun h => g10 (((e 10).1 h).resolve_left (by omega)), fun h => g12 (((e 12).1 h).resolve_left (by omega))⟩, fun h => absurd (((e 13).1 h).resolve_left (by omega)) h13⟩).1 (fun h => h13 (((e 13).1 h).resolve_left (by omega)))
   | 12, _ =>
    simp only [FX] at hm
    have e_v12 := g0 hm.1
    subst e_v12
    have e_v13 := g1 hm.2
    subst e_v13
    refine I1 (by omega) (fun w1 r => by
     have hK1 := hK.rely k r
     exact Aau k hK1 hj) ?_
    rw [XJ]
    exact (hnext _ M w ⟨fun _ => ⟨hc', hK, hS, hM, A, cc, x, _, _, _, _, _, _, _, _, _, _, _, _, _, _, _, _, rfl, fun h => g0 (((e 0).1 h).resolve_left (by omega)), fun h => g1 (((e 1).1 h).resolve_left (by omega)), fun h => g2 (((e 2).1 h).resolve_left (by omega)), fun h => g3 (((e 3).1 h).resolve_left (by omega)), fun h => g4 (((e 4).1 h).resolve_left (by omega)), fun h => g5 (((e 5).1 h).resolve_left (by omega)), fun h => g6 (((e 6).1 h).resolve_left (by omega)), fun h => g7 (((e 7).1 h).resolve_left (by omega)), fun h => g8 (((e 8).1 h).resolve_left (by omega)), fun h => g9 (((e 9).1 h).resolve_left (by omega)), fun h => g10 (((e 10).1 h).resolve_left (by omega)), fun _ => rfl⟩, fun h => absurd (((e 13).1 h).resolve_left (by omega)) h13⟩).1 (fun h => h13 (((e 13).1 h).resolve_left (by omega)))
   | 13, _ =>
    simp only [FX] at hm
    have e_v23 := g12 hm.1
    have e_v21 := g10 hm.2.1
    have e_v11 := g9 (hc.h10 hm.2.1)
    subst e_v23
    subst e_v21
    subst e_v11
    have ho := (g8 hm.2.2).2
    refine .stop fun w1 r => ?_
    have hK1 := hK.rely k r
    refine YF K k H hP hj hK1 (r.sh hS) hM (hkn _ hK1.kn).b0 (ho.keep (fun _ h => h) fun b hb => r.mine b (.inl hb)) fun w' hK' hS' => ?_
    unfold Cfg.WO
    rw [hP]
    exact (hnext _ none_ w' ⟨fun h => absurd ((e 13).2 (.inl rfl)) h, fun _ => ⟨hc', hK', hS', _, _, _, _, _, _, _, _, _, _, _, _, _, _, _, _, _, _, rfl⟩⟩).2 ((e 13).2 (.inl rfl))
  ·have hall := (hJ h13).1.all h13
   have h11 : i = 11 := Classical.byContradiction fun h => hni (hall i hlt h)
   subst h11
   obtain ⟨hc, hK, hS, x, y, v8, v9, v10, v12, v13, v14, v15, v16, v17, v18, v19, v20, v21, v22, v23, jj, rfl⟩ := hJ h13
   have hc' := hc.step hm hlt
   have e : ∀ q, On (L.setIfInBounds 11 true) q ↔ q = 11 ∨ On L q := fun q => Qx (by rw [hc.n]; exact hlt)
   have h13' : On (L.setIfInBounds 11 true) 13 := (e 13).2 (.inr h13)
   refine I1 (by omega) (fun w1 r => by
    have hK1 := hK.rely k r
    exact Yp k hK1) ?_
   rw [Rw]
   exact (hnext _ none_ w ⟨fun h => absurd h13' h, fun _ => ⟨hc', hK, hS, _, _, _, _, _, _, _, _, _, _, _, _, _, _, _, _, _, _, rfl⟩⟩).2 h13'
theorem Ze (K : c.Ok0) (k : LLR c l) {ops : Nat → List Op8} {D : Nat → Prop} (hkn : ∀ w, l.Kn w → KN4 c l ops D w) (H : Hk c l (Da l ops)) (hP : c.P = Tryd.prog) (j : Nat) (g : Goroutine) (w : World) (hj : j < l.m) (hK : LWK l w) (hS : c.Sh w) (h : Wq l j g) : c.WO (c.EA j) g w := by
 have h1 := Eu (R := c.A.R) (Sh := c.Sh) (X := fun _ => False) (M := none_) (E := BZ none_ c.A.R) (fun e h M => .inl (Fy h)) (fun M w w1 h => Cfg.Df h) (XD k h hK) hS
 unfold Cfg.WO
 rw [hP]
 refine h1.bind fun M g w hh => ?_
 obtain ⟨rfl, h4, hS'⟩ := hh
 exact WY K k hkn H hP hj h4 hS'
end
end Go.Proofs.YtkkmokodaejheaaDoor
namespace Go.Proofs.YtkkmokodaejheaaDoor
open Go Go.Conc
open Go.ConcN (sumTo sumTo_upd upd_ne upd_same)
def C9 (SB : Nat → Prop) (l : Go.Loc) : Prop := ∃ a, l = .cell a ∧ SB a.block
theorem Zg {SB M R : Nat → Prop} {B : Nat} {e : Event} (h : BZ M R e) (hM : ∀ k, M k → k < B ∧ ¬ SB k) (hR : ∀ k, R k → k < B ∧ ¬ SB k) : EvL (C9 SB) B e := by
 obtain ⟨loc, wr, sy⟩ := e
 unfold BZ at h
 cases loc with
 | cell a =>
  have hb : a.block < B ∧ ¬ SB a.block := by
   rcases h with h | ⟨h, _⟩
   ·exact hM _ h
   ·exact hR _ h
  refine ⟨fun x hx hs => ?_, by simp, by simp, hb.1⟩
  simp only [MemAct.ofEvent, MemAct.touch?, Option.some.injEq] at hx
  subst hx
  obtain ⟨a', e', hs⟩ := hs
  cases e'
  exact absurd hs hb.2
 | obj r =>
  have hb := (hM _ h).1
  have key : ∀ (x : Touch), x.loc = .obj r → C9 SB x.loc → x.kind ≠ .plain := fun x hx hs => by
   obtain ⟨a', e', hs⟩ := hs
   rw [hx] at e'
   cases e'
  cases wr <;> cases sy <;> refine ⟨fun x hx hs => ?_, by simp, by simp, hb⟩ <;> simp [MemAct.ofEvent, MemAct.touch?] at hx <;> exact key x (by rw [← hx]) hs
 | mark m =>
  refine ⟨fun x hx hs => ?_, ?_, ?_, ?_⟩
  ·rcases h with rfl | ⟨f, rfl⟩ <;> simp [MemAct.ofEvent, MemAct.touch?] at hx
  ·rcases h with rfl | ⟨f, rfl⟩ <;> simp
  ·rcases h with rfl | ⟨f, rfl⟩ <;> simp
  ·rcases h with rfl | ⟨f, rfl⟩ <;> trivial
 | output => exact h.elim
 | goroutines => exact h.elim
def MB (P : Program) (SB : Nat → Prop) (z : Nat) (a : Goroutine) (w : World) (Q : Goroutine → World → Prop) : Prop :=
 ∀ (gs : Array Goroutine) (sl : Option (Nat × Nat)) (t : Trace) (q : Nat → Nat), gs.size = z → gs[0]? = some a → Leavers P t gs q → Past (C9 SB) w.heap.size t →
  ∃ (N : Nat) (gs' : Array Goroutine) (a' : Goroutine) (w' : World) (sl' : Option (Nat × Nat)) (t' : Trace) (q' : Nat → Nat),
   runNT P N (crowd gs w sl) t = (.next (crowd gs' w' sl'), t') ∧ gs'.size = z ∧ gs'[0]? = some a' ∧ Leavers P t' gs' q' ∧ Past (C9 SB) w'.heap.size t' ∧ Q a' w'
section
variable {P : Program} {SB : Nat → Prop} {z : Nat}
theorem MB.done {a : Goroutine} {w : World} {Q : Goroutine → World → Prop} (h : Q a w) : MB P SB z a w Q := fun gs sl t q hz h0 hL hP => ⟨0, gs, a, w, sl, t, q, rfl, hz, h0, hL, hP, h⟩
theorem MB.bind {a : Goroutine} {w : World} {Q Q' : Goroutine → World → Prop} (h : MB P SB z a w Q) (h' : ∀ a' w', Q a' w' → MB P SB z a' w' Q') : MB P SB z a w Q' := by
 intro gs sl t q hz h0 hL hP
 obtain ⟨N, gs', a', w', sl', t', q', h1, h2, h3, h4, h5, h6⟩ := h gs sl t q hz h0 hL hP
 obtain ⟨N2, gs2, a2, w2, sl2, t2, q2, g1, g2, g3, g4, g5, g6⟩ := h' a' w' h6 gs' sl' t' q' h2 h3 h4 h5
 exact ⟨N + N2, gs2, a2, w2, sl2, t2, q2, by rw [runNT_add, h1]; exact g1, g2, g3, g4, g5, g6⟩
theorem MB.mono {a : Goroutine} {w : World} {Q Q' : Goroutine → World → Prop} (h : MB P SB z a w Q) (h' : ∀ a' w', Q a' w' → Q' a' w') : MB P SB z a w Q' := h.bind fun a' w' hq => .done (h' a' w' hq)
theorem WX {M R : Nat → Prop} {Sh : World → Prop} (hSh : ∀ w d, Sh w → Sh (w.at d)) (w : World) (d : Nat) : BS M R Sh w (w.at d) := ⟨Nat.le_refl _, fun _ _ => rfl, rfl, rfl, rfl, hSh w d⟩
theorem MB.own {R : Nat → Prop} {Sh : World → Prop} (hSh : ∀ w d, Sh w → Sh (w.at d)) {Stop : (Nat → Prop) → Goroutine → World → Prop} {M : Nat → Prop} {a : Goroutine} {w : World} (h : Own P true R Sh (fun _ => False) Stop M a w)
  (hst : ∀ M a w, Stop M a w → a.status = .running) (hM : ∀ k, M k → k < w.heap.size ∧ ¬ SB k) (hR : ∀ k, R k → k < w.heap.size ∧ ¬ SB k) (hS : ∀ k, SB k → k < w.heap.size) :
  MB P SB z a w (fun a' w' => w.heap.size ≤ w'.heap.size ∧ ∃ M', (∀ k, M' k → k < w'.heap.size ∧ ¬ SB k) ∧ Stop M' a' w') := by
 induction h with
 | stop h =>
  rename_i M a w
  exact .done ⟨Nat.le_refl _, M, hM, h w (BS.refl ..)⟩
 | step hrun nx h1 h2 h3 h4 ih =>
  rename_i M a w
  have key : ∀ (n : Nat) (d0 : Nat) (gs : Array Goroutine) (sl : Option (Nat × Nat)) (t : Trace) (q : Nat → Nat), sumTo gs.size q ≤ n → gs.size = z → gs[0]? = some a → Leavers P t gs q → Past (C9 SB) w.heap.size t →
    ∃ (N : Nat) (gs' : Array Goroutine) (a' : Goroutine) (w' : World) (sl' : Option (Nat × Nat)) (t' : Trace) (q' : Nat → Nat),
     runNT P N (crowd gs (w.at d0) sl) t = (.next (crowd gs' w' sl'), t') ∧ gs'.size = z ∧ gs'[0]? = some a' ∧ Leavers P t' gs' q' ∧ Past (C9 SB) w'.heap.size t' ∧ w.heap.size ≤ w'.heap.size ∧ ∃ M', (∀ k, M' k → k < w'.heap.size ∧ ¬ SB k) ∧ Stop M' a' w' := by
   intro n
   induction n using Nat.strongRecOn with
   | _ n ihn =>
    intro d0 gs sl t q hn hz h0 hL hP
    have haw : ∀ g ∈ gs, awake g := by
     intro g hg
     obtain ⟨i, hi, rfl⟩ := Array.mem_iff_getElem.1 hg
     rcases Nat.eq_zero_or_pos i with rfl | hpos
     ·have : gs[0] = a := by simpa [Array.getElem?_eq_getElem hi] using h0
      rw [this]; exact awake_of (.inl hrun)
     ·exact awake_of ((hL.old i _ hpos (Array.getElem?_eq_getElem hi)).status.elim .inl fun x => .inr (.inr x))
    obtain ⟨i, g, d, sl', hi, hg, hst'⟩ := crowd_pick (P := P) (w := w.at d0) (sl := sl) haw ⟨0, a, h0, hrun⟩
    rcases Nat.eq_zero_or_pos i with rfl | hpos
    ·obtain rfl : g = a := by rw [h0] at hi; exact (Option.some.inj hi).symm
     have hre : BS M R Sh w ((w.at d0).at d) := WX hSh w d
     have hgo := h1 _ hre
     have hsp := h2 _ hre
     have hev := h3 _ hre
     generalize hnx : nx ((w.at d0).at d) = p at hgo hsp hev
     obtain ⟨a', w', es⟩ := p
     dsimp only at hgo hsp hev
     have hsz0 : ((w.at d0).at d).heap.size = w.heap.size := rfl
     rw [hsz0] at hev
     have hszw : w.heap.size ≤ w'.heap.size := hsp.size
     have hrunT := runT_crowd_go (P := P) (sl := sl') (i := 0) hi (show stepG P (0 == 0) g ((w.at d0).at d) = _ from hgo)
     have hsz : ((gs.map (woken P g a' w')).setIfInBounds 0 a').size = gs.size := by simp
     have hlt : 0 < gs.size := (Array.getElem?_eq_some_iff.1 h0).1
     have hMg : ∀ k, grown M w.heap.size w'.heap.size k → k < w'.heap.size ∧ ¬ SB k := fun k hk => by
      rcases hk with hk | ⟨hk1, hk2⟩
      ·exact ⟨Nat.lt_of_lt_of_le (hM k hk).1 hszw, (hM k hk).2⟩
      ·exact ⟨hk2, fun hs => by have := hS k hs; omega⟩
     have hRg : ∀ k, R k → k < w'.heap.size ∧ ¬ SB k := fun k hk => ⟨Nat.lt_of_lt_of_le (hR k hk).1 hszw, (hR k hk).2⟩
     have hih := ih ((w.at d0).at d) hre
     rw [hnx] at hih
     obtain ⟨N, gs', a'', w'', sl'', t', q', hr', hs', h0', hL', hP', hle, hrest⟩ := hih hMg hRg (fun k hk => Nat.lt_of_lt_of_le (hS k hk) hszw) ((gs.map (woken P g a' w')).setIfInBounds 0 a') sl' (t ++ MemOp.ofEvents 0 g.frame.fn g.frame.place es) q (hsz.trans hz) (by simp [hlt])
      ⟨fun j x hj hx => by
       have hne : 0 ≠ j := by omega
       rw [Array.getElem?_setIfInBounds_ne hne, Array.getElem?_map] at hx
       obtain ⟨y, hy, rfl⟩ := Option.map_eq_some_iff.1 hx
       have hq := hL.old j y hj hy
       rw [woken_quitsD hq, Deaf_other t (by omega) _ (fun op hop => by obtain ⟨e, _, rfl⟩ := Go.Conc.mem_ofEvents hop; rfl)]
       exact hq, fun j hj => by
       rw [Deaf_other t (g' := 0) (by simp at hj; omega) _ (fun op hop => by obtain ⟨e, _, rfl⟩ := Go.Conc.mem_ofEvents hop; rfl)]
       exact hL.above j (by simpa using hj)⟩
      ((hP.mono hszw).own fun e he => Zg ((hev e he).resolve_right id) hMg hRg)
     exact ⟨N + 1, gs', a'', w'', sl'', t', q', by simp only [runNT, hst', hrunT]; exact hr', hs', h0', hL', hP', Nat.le_trans hszw hle, hrest⟩
    ·have hq := hL.old i g hpos hi
     have hi0 : (i == 0) = false := by simp; omega
     have hlt : i < gs.size := (Array.getElem?_eq_some_iff.1 hi).1
     cases hqi : q i with
     | zero => rw [hqi] at hq; rw [hq.1] at hg; cases hg
     | succ k =>
      rw [hqi] at hq
      rcases hq with ⟨hf, _⟩ | ⟨_, g', es, hm, hstp, hq'⟩
      ·rw [hf] at hg; cases hg
      have hrunT := runT_crowd_go (P := P) (sl := sl') (i := i) hi (by rw [hi0]; exact hstp ((w.at d0).at d))
      have hsz : ((gs.map (woken P g g' ((w.at d0).at d))).setIfInBounds i g').size = gs.size := by simp
      have hsum : sumTo gs.size (Go.ConcN.upd q i k) + (k + 1) = sumTo gs.size q + k := by
       have := sumTo_upd q k id hlt
       simpa [hqi] using this
      obtain ⟨N, gs', a'', w'', sl'', t', q', hr', hs', h0', hL', hP', hrest⟩ := ihn (n - 1) (by omega) d ((gs.map (woken P g g' ((w.at d0).at d))).setIfInBounds i g') sl' (t ++ MemOp.ofEvents i g.frame.fn g.frame.place es) (Go.ConcN.upd q i k) (by rw [hsz]; omega) (hsz.trans hz)
          (by
           have hne : i ≠ 0 := by omega
           rw [Array.getElem?_setIfInBounds_ne hne, Array.getElem?_map, h0]
           simp [woken_run hrun])
          ⟨fun j x hj hx => by
           by_cases hji : i = j
           ·subst hji
            rw [Array.getElem?_setIfInBounds_self_of_lt (by simpa using hlt)] at hx
            obtain rfl := Option.some.inj hx
            rw [upd_same, Deaf_own]
            exact hq'
           ·rw [Array.getElem?_setIfInBounds_ne hji, Array.getElem?_map] at hx
            obtain ⟨y, hy, rfl⟩ := Option.map_eq_some_iff.1 hx
            have hqj := hL.old j y hj hy
            rw [woken_quitsD hqj, upd_ne q k (Ne.symm hji), Deaf_other t hji _ (fun op hop => by obtain ⟨e, _, rfl⟩ := Go.Conc.mem_ofEvents hop; rfl)]
            exact hqj, fun j hj => by
           rw [Deaf_other t (g' := i) (by simp at hj; omega) _ (fun op hop => by obtain ⟨e, _, rfl⟩ := Go.Conc.mem_ofEvents hop; rfl)]
           exact hL.above j (by simpa using hj)⟩
          (hP.mute (by omega) hm)
      exact ⟨N + 1, gs', a'', w'', sl'', t', q', by simp only [runNT, hst', hrunT]; exact hr', hs', h0', hL', hP', hrest⟩
  intro gs sl t q hz h0 hL hP
  obtain ⟨N, gs', a', w', sl', t', q', g1, g2, g3, g4, g5, g6, g7⟩ := key (sumTo gs.size q) w.drawn gs sl t q (Nat.le_refl _) hz h0 hL hP
  exact ⟨N, gs', a', w', sl', t', q', g1, g2, g3, g4, g5, g6, g7⟩
end
end Go.Proofs.YtkkmokodaejheaaDoor
namespace Go.Proofs.YtkkmokodaejheaaDoor
open Go Go.Conc
def NK (P : Program) (fn : Func) (R : Ending → World → Prop) (KO : Env → World → Prop) : A9
 | .normal, ρ, w => KO ρ w
 | .ret, ρ, w => DR P fn R .ret ρ w
 | _, _, _ => False
theorem KU {P : Program} {fn : Func} {R : Ending → World → Prop} {ρ : Env} {w : World} (h : DR P fn R .ret ρ w) : ∀ a, Fit fn.ntmps ρ a → ∃ v, (results fn a.tmps).run P w = .ok v w ∧ R (.returned v) w := by
 unfold DR at h
 exact h
theorem OG {P : Program} {fn : Func} {R : Ending → World → Prop} {ρ : Env} {w : World} (h : DR P fn R .normal ρ w) : ∀ a, Fit fn.ntmps ρ a → ∃ v, (results fn a.tmps).run P w = .ok v w ∧ R (.returned v) w := by
 unfold DR at h
 exact h
theorem GH {P : Program} {fn : Func} {R : Ending → World → Prop} {e : Exit} {ρ : Env} {w : World} (h : DR P fn R e ρ w) : e = .normal ∨ e = .ret := by
 unfold DR at h
 cases e <;> first | exact .inl rfl | exact .inr rfl | exact h.elim
theorem Jl {P : Program} {fn : Func} {R : Ending → World → Prop} {KO : Env → World → Prop} {e : Exit} {ρ : Env} {w : World} (h : NK P fn R KO e ρ w) : e = .normal ∨ e = .ret := by
 cases e <;> first | exact .inl rfl | exact .inr rfl | exact h.elim
section
variable {P : Program}
theorem Hr {N : Nat} {T : Array Value} (hT : T.size = N) : Fit N (fun i => T.getD i undef) ⟨T, []⟩ := ⟨hT, fun i => rfl, rfl⟩
theorem JU {f : FuncId} {fn : Func} {c : Code} {T : Array Value} {v : World} {R : Ending → World → Prop} {KO : Env → World → Prop} (hf : P.funcs[f]? = some fn) (hT : T.size = fn.ntmps)
  (h : ∀ t, W P fn.ntmps c (NK P fn R KO) (fun i => T.getD i undef) (v.tp t)) :
  DJ P (fun f' T' w => f' = f ∧ JG P (fun u w => R (.returned u) w) f' T' w) (fun f' T' w => f' = f ∧ T'.size = fn.ntmps ∧ KO (fun i => T'.getD i undef) w) ⟨fm f T ([.code c] ++ [mkI]), [], v⟩ := by
 intro t _
 have h1 := h t
 unfold W at h1
 obtain ⟨e, a', w', hq, harr⟩ := h1 ⟨T, []⟩ (Hr hT) (base f) [mkI] [sent]
 have e0 : (⟨fm f T ([.code c] ++ [mkI]), [], v⟩ : LC).m t = lone ((base f).at ⟨T, []⟩ (.code c :: [mkI])) [sent] (v.tp t) := rfl
 rw [e0]
 cases e with
 | normal =>
  obtain ⟨ρ, hfit, hK⟩ := hq
  obtain ⟨n, hn⟩ := harr
  refine ⟨n, _, w', hn, .inr ⟨rfl, rfl, rfl, hfit.size, ?_⟩⟩
  have : (fun i => a'.tmps.getD i undef) = ρ := hfit.env
  show KO (fun i => a'.tmps.getD i undef) w'
  rw [this]; exact hK
 | ret =>
  obtain ⟨ρ, hfit, hK⟩ := hq
  obtain ⟨todo, n, hn⟩ := harr
  obtain ⟨u, hr, hR⟩ := KU hK a' hfit
  exact ⟨n, _, w', hn, .inl ⟨rfl, rfl, fn, u, hf, hr, hR⟩⟩
 | panic c => exact absurd (Jl hq.2) (by simp)
 | exit id => obtain ⟨_, _, h⟩ := hq; exact absurd (Jl h) (by simp)
 | goto l => obtain ⟨_, _, h⟩ := hq; exact absurd (Jl h) (by simp)
 | outgrown => exact hq.elim
theorem Sn {f : FuncId} {fn : Func} {c : Code} {T : Array Value} {v : World} {R : Ending → World → Prop} (hf : P.funcs[f]? = some fn) (hT : T.size = fn.ntmps)
  (h : ∀ t, W P fn.ntmps c (DR P fn R) (fun i => T.getD i undef) (v.tp t)) : Good P (fun u w => R (.returned u) w) ⟨fm f T [.code c], [], v⟩ := by
 intro t _
 have h1 := h t
 unfold W at h1
 obtain ⟨e, a', w', hq, harr⟩ := h1 ⟨T, []⟩ (Hr hT) (base f) [] [sent]
 have e0 : (⟨fm f T [.code c], [], v⟩ : LC).m t = lone ((base f).at ⟨T, []⟩ [.code c]) [sent] (v.tp t) := rfl
 rw [e0]
 cases e with
 | normal =>
  obtain ⟨ρ, hfit, hK⟩ := hq
  obtain ⟨u, hr, hR⟩ := OG hK a' hfit
  obtain ⟨n, hn⟩ : Steps P _ _ := Steps.trans harr (.one step_end)
  exact ⟨n, _, w', hn, .inl ⟨rfl, fn, u, hf, hr, hR⟩⟩
 | ret =>
  obtain ⟨ρ, hfit, hK⟩ := hq
  obtain ⟨todo, n, hn⟩ := harr
  obtain ⟨u, hr, hR⟩ := KU hK a' hfit
  exact ⟨n, _, w', hn, .inl ⟨rfl, fn, u, hf, hr, hR⟩⟩
 | panic c => exact absurd (GH hq.2) (by simp)
 | exit id => obtain ⟨_, _, h⟩ := hq; exact absurd (GH h) (by simp)
 | goto l => obtain ⟨_, _, h⟩ := hq; exact absurd (GH h) (by simp)
 | outgrown => exact hq.elim
end
end Go.Proofs.YtkkmokodaejheaaDoor
