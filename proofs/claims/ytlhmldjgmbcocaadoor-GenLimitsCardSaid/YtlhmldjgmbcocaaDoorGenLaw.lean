import Derived.Test.YtlhmldjgmbcocaaDoorBase
import Derived.Lib.AtoiAll
import Derived.Lib.ItoaNum
/-! GenLaw: plain words of generators: what they give (Nx, Tk), how they are read (pG), and the laws. Nothing of the program. -/
namespace Go.Proofs.YtlhmldjgmbcocaaDoor
open Go

inductive Ge where
  | rd (k : Int)
  | wr (k l t : Int)
  | lim (n : Nat) (g : Ge)
  | mix (gs : List Ge)
  | thn (gs : List Ge)

mutual
def Ge.sz : Ge → Nat
  | .rd _ => 1
  | .wr _ _ _ => 1
  | .lim _ g => 1 + g.sz
  | .mix gs => 1 + szL gs
  | .thn gs => 1 + szL gs
def szL : List Ge → Nat
  | [] => 0
  | g :: gs => 1 + g.sz + szL gs
end
theorem szL_set : ∀ (gs : List Ge) (i : Nat) (g g' : Ge), gs[i]? = some g → szL (gs.set i g') + g.sz = szL gs + g'.sz
  | [], i, g, g', h => by simp at h
  | a :: gs, 0, g, g', h => by
    simp only [List.getElem?_cons_zero, Option.some.injEq] at h
    subst h
    simp only [List.set_cons_zero, szL]
    omega
  | a :: gs, i + 1, g, g', h => by
    simp only [List.getElem?_cons_succ] at h
    have := szL_set gs i g g' h
    simp only [List.set_cons_succ, szL]
    omega
theorem szL_erase : ∀ (gs : List Ge) (i : Nat) (g : Ge), gs[i]? = some g → szL (gs.eraseIdx i) + g.sz + 1 = szL gs
  | [], i, g, h => by simp at h
  | a :: gs, 0, g, h => by
    simp only [List.getElem?_cons_zero, Option.some.injEq] at h
    subst h
    simp only [List.eraseIdx_cons_zero, szL]
    omega
  | a :: gs, i + 1, g, h => by
    simp only [List.getElem?_cons_succ] at h
    have := szL_erase gs i g h
    simp only [List.eraseIdx_cons_succ, szL]
    omega
theorem szL_len : ∀ (gs : List Ge), gs.length ≤ szL gs
  | [] => Nat.le_refl _
  | a :: gs => by
    have := szL_len gs
    simp only [List.length_cons, szL]
    omega

/-- A call: write, key, value. -/
abbrev Ca := Bool × Int × Int
/-- The tape's number u, modulo n. -/
def belF (nums : List Int) (u : Nat) (n : Int) : Int := IntKind.u64.wrap (nums.getD u 0) % n

inductive Nx (nums : List Int) : Ge → Nat → Option Ca → Ge → Nat → Prop
  | rd {k u} : Nx nums (.rd k) u (some (false, k, 0)) (.rd k) u
  | wr {k l t u} : Nx nums (.wr k l t) u (some (true, k, l + belF nums u (t - l + 1))) (.wr k l t) (u + 1)
  | lim0 {g u} : Nx nums (.lim 0 g) u none (.lim 0 g) u
  | lim {g u r g' u' n} : Nx nums g u r g' u' → Nx nums (.lim (n + 1) g) u r (.lim n g') u'
  | mix0 {u} : Nx nums (.mix []) u none (.mix []) u
  | mixS {gs g g' u u'} {c : Ca} {i : Nat} : gs[i]? = some g → (i : Int) = belF nums u gs.length → Nx nums g (u + 1) (some c) g' u' → Nx nums (.mix gs) u (some c) (.mix (gs.set i g')) u'
  | mixN {gs g g' u u' r g'' u''} {i : Nat} : gs[i]? = some g → (i : Int) = belF nums u gs.length → Nx nums g (u + 1) none g' u' → Nx nums (.mix (gs.eraseIdx i)) u' r g'' u'' → Nx nums (.mix gs) u r g'' u''
  | thn0 {u} : Nx nums (.thn []) u none (.thn []) u
  | thnS {gs g g' u u'} {c : Ca} : Nx nums g u (some c) g' u' → Nx nums (.thn (g :: gs)) u (some c) (.thn (g' :: gs)) u'
  | thnN {gs g g' u u' r g'' u''} : Nx nums g u none g' u' → Nx nums (.thn gs) u' r g'' u'' → Nx nums (.thn (g :: gs)) u r g'' u''

theorem Nx.det {nums : List Int} {g : Ge} {u : Nat} {r : Option Ca} {g1 : Ge} {u1 : Nat} (h : Nx nums g u r g1 u1) : ∀ {r2 g2 u2}, Nx nums g u r2 g2 u2 → r = r2 ∧ g1 = g2 ∧ u1 = u2 := by
  induction h with
  | rd => intro r2 g2 u2 h2; cases h2; exact ⟨rfl, rfl, rfl⟩
  | wr => intro r2 g2 u2 h2; cases h2; exact ⟨rfl, rfl, rfl⟩
  | lim0 => intro r2 g2 u2 h2; cases h2; exact ⟨rfl, rfl, rfl⟩
  | lim _ ih =>
    intro r2 g2 u2 h2
    cases h2 with
    | lim h => obtain ⟨rfl, rfl, rfl⟩ := ih h; exact ⟨rfl, rfl, rfl⟩
  | mix0 =>
    intro r2 g2 u2 h2
    cases h2 with
    | mix0 => exact ⟨rfl, rfl, rfl⟩
    | mixS h => simp at h
    | mixN h => simp at h
  | mixS h1 h2 _ ih =>
    intro r2 g2 u2 h
    cases h with
    | mix0 => simp at h1
    | mixS h1' h2' h' =>
      rw [← h2, Int.ofNat_inj] at h2'
      subst h2'
      rw [h1, Option.some.injEq] at h1'
      subst h1'
      obtain ⟨h3, rfl, rfl⟩ := ih h'
      exact ⟨h3, rfl, rfl⟩
    | mixN h1' h2' h' =>
      rw [← h2, Int.ofNat_inj] at h2'
      subst h2'
      rw [h1, Option.some.injEq] at h1'
      subst h1'
      cases (ih h').1
  | mixN h1 h2 _ _ ih ih2 =>
    intro r2 g2 u2 h
    cases h with
    | mix0 => simp at h1
    | mixS h1' h2' h' =>
      rw [← h2, Int.ofNat_inj] at h2'
      subst h2'
      rw [h1, Option.some.injEq] at h1'
      subst h1'
      cases (ih h').1
    | mixN h1' h2' h' h'' =>
      rw [← h2, Int.ofNat_inj] at h2'
      subst h2'
      rw [h1, Option.some.injEq] at h1'
      subst h1'
      obtain ⟨_, _, rfl⟩ := ih h'
      exact ih2 h''
  | thn0 => intro r2 g2 u2 h2; cases h2; exact ⟨rfl, rfl, rfl⟩
  | thnS _ ih =>
    intro r2 g2 u2 h
    cases h with
    | thnS h => obtain ⟨h3, rfl, rfl⟩ := ih h; exact ⟨h3, rfl, rfl⟩
    | thnN h => cases (ih h).1
  | thnN _ _ ih ih2 =>
    intro r2 g2 u2 h
    cases h with
    | thnS h => cases (ih h).1
    | thnN h h' => obtain ⟨_, _, rfl⟩ := ih h; exact ih2 h'

theorem Nx.sz {nums : List Int} {g : Ge} {u : Nat} {r : Option Ca} {g1 : Ge} {u1 : Nat} (h : Nx nums g u r g1 u1) : u ≤ u1 ∧ u1 ≤ u + g.sz ∧ g1.sz ≤ g.sz := by
  induction h with
  | rd => simp only [Ge.sz]; omega
  | wr => simp only [Ge.sz]; omega
  | lim0 => simp only [Ge.sz]; omega
  | lim _ ih => simp only [Ge.sz]; omega
  | mix0 => simp only [Ge.sz]; omega
  | @mixS gs g g' u u' c i h1 h2 _ ih => have := szL_set gs i g g' h1; have := szL_erase gs i g h1; simp only [Ge.sz]; omega
  | @mixN gs g g' u u' r g'' u'' i h1 h2 _ _ ih ih2 => have := szL_erase gs i g h1; simp only [Ge.sz] at ih2 ⊢; omega
  | thn0 => simp only [Ge.sz]; omega
  | thnS _ ih => simp only [Ge.sz, szL]; omega
  | thnN _ _ ih ih2 => simp only [Ge.sz, szL] at ih2 ⊢; omega

/-- What n calls give at most. -/
inductive Tk (nums : List Int) : Ge → Nat → Nat → List Ca → Ge → Nat → Prop
  | zero {g u} : Tk nums g u 0 [] g u
  | stop {g u g' u' n} : Nx nums g u none g' u' → Tk nums g u (n + 1) [] g' u'
  | step {g u g1 u1 g' u' n cs} {c : Ca} : Nx nums g u (some c) g1 u1 → Tk nums g1 u1 n cs g' u' → Tk nums g u (n + 1) (c :: cs) g' u'

theorem Tk.det {nums : List Int} {g : Ge} {u n : Nat} {cs : List Ca} {g1 : Ge} {u1 : Nat} (h : Tk nums g u n cs g1 u1) : ∀ {cs2 g2 u2}, Tk nums g u n cs2 g2 u2 → cs = cs2 ∧ g1 = g2 ∧ u1 = u2 := by
  induction h with
  | zero => intro cs2 g2 u2 h2; cases h2; exact ⟨rfl, rfl, rfl⟩
  | stop h =>
    intro cs2 g2 u2 h2
    cases h2 with
    | stop h' => obtain ⟨_, rfl, rfl⟩ := h.det h'; exact ⟨rfl, rfl, rfl⟩
    | step h' => cases (h.det h').1
  | step h _ ih =>
    intro cs2 g2 u2 h2
    cases h2 with
    | stop h' => cases (h.det h').1
    | step h' h'' =>
      obtain ⟨hc, rfl, rfl⟩ := h.det h'
      cases hc
      obtain ⟨rfl, rfl, rfl⟩ := ih h''
      exact ⟨rfl, rfl, rfl⟩
theorem Tk.sz {nums : List Int} {g : Ge} {u n : Nat} {cs : List Ca} {g1 : Ge} {u1 : Nat} (h : Tk nums g u n cs g1 u1) : u1 ≤ u + n * g.sz ∧ g1.sz ≤ g.sz ∧ cs.length ≤ n := by
  induction h with
  | zero => exact ⟨by simp, Nat.le_refl _, Nat.le_refl _⟩
  | @stop g u g' u' n h =>
    have := h.sz
    refine ⟨?_, this.2.2, Nat.zero_le _⟩
    rw [Nat.add_mul]
    omega
  | @step g u g1 u1 g' u' n cs c h _ ih =>
    have := h.sz
    have h2 : n * g1.sz ≤ n * g.sz := Nat.mul_le_mul_left _ this.2.2
    refine ⟨?_, Nat.le_trans ih.2.1 this.2.2, by have := ih.2.2; simp only [List.length_cons]; omega⟩
    rw [Nat.add_mul]
    omega
/-- A limit. -/
theorem Tk.limit {nums : List Int} {N : Nat} : ∀ {g : Ge} {u n : Nat} {bs az : List Ca} {g1 g2 : Ge} {u1 u2 : Nat}, Tk nums (.lim n g) u N bs g1 u1 → Tk nums g u N az g2 u2 → bs = az.take n := by
  induction N with
  | zero => intro g u n bs az g1 g2 u1 u2 h h'; cases h; cases h'; simp
  | succ N ih =>
    intro g u n bs az g1 g2 u1 u2 h h'
    cases h with
    | stop h =>
      cases h with
      | lim0 => simp
      | lim h =>
        cases h' with
        | stop h' => simp
        | step h' => cases (h.det h').1
    | step h hr =>
      cases h with
      | lim h =>
        cases h' with
        | stop h' => cases (h.det h').1
        | step h' hr' =>
          obtain ⟨hc, rfl, rfl⟩ := h.det h'
          cases hc
          rw [ih hr hr', List.take_succ_cons]
/-- One alone, behind none. -/
theorem Tk.one {nums : List Int} {N : Nat} : ∀ {g : Ge} {u : Nat} {bs as : List Ca} {g1 g2 : Ge} {u1 u2 : Nat}, Tk nums (.thn [g]) u N bs g1 u1 → Tk nums g u N as g2 u2 → bs = as := by
  induction N with
  | zero => intro g u bs as g1 g2 u1 u2 h h'; cases h; cases h'; rfl
  | succ N ih =>
    intro g u bs as g1 g2 u1 u2 h h'
    cases h with
    | stop h =>
      cases h with
      | thnN h _ =>
        cases h' with
        | stop h' => rfl
        | step h' => cases (h.det h').1
    | step h hr =>
      cases h with
      | thnS h =>
        cases h' with
        | stop h' => cases (h.det h').1
        | step h' hr' =>
          obtain ⟨hc, rfl, rfl⟩ := h.det h'
          cases hc
          rw [ih hr hr']
      | thnN h hx => cases hx
/-- In two parts. -/
theorem Tk.two {nums : List Int} {g : Ge} {u a : Nat} {x : List Ca} {g1 : Ge} {u1 : Nat} (h : Tk nums g u a x g1 u1) : ∀ {b y g2 u2}, Tk nums g1 u1 b y g2 u2 → ∃ g3 u3, Tk nums g u (a + b) (if x.length < a then x else x ++ y) g3 u3 := by
  induction h with
  | zero => intro b y g2 u2 h; exact ⟨g2, u2, by simpa using h⟩
  | @stop g u g' u' n h => intro b y g2 u2 _; exact ⟨_, _, by simpa [Nat.add_right_comm] using Tk.stop (n := n + b) h⟩
  | @step g u g1 u1 g' u' n cs c h _ ih =>
    intro b y g2 u2 h2
    obtain ⟨g3, u3, h3⟩ := ih h2
    refine ⟨g3, u3, ?_⟩
    have h4 := Tk.step h h3
    rw [show n + 1 + b = n + b + 1 by omega]
    by_cases hc : cs.length < n
    · rw [if_pos hc] at h4
      rw [if_pos (by simp; omega)]
      exact h4
    · rw [if_neg hc] at h4
      rw [if_neg (by simp; omega)]
      exact h4

/-! ### Reading -/
abbrev Tok := List UInt8
def tRead : Tok := [114, 101, 97, 100]
def tWrite : Tok := [119, 114, 105, 116, 101]
def tLimit : Tok := [108, 105, 109, 105, 116]
def tMix : Tok := [109, 105, 120]
def tThen : Tok := [116, 104, 101, 110]
def tOpen : Tok := [40]
def tShut : Tok := [41]
def tComma : Tok := [44]
def gnumF (t : Tok) (least most : Int) : Option Int := match Lib.atoiAll t with
  | .ok n => if Lib.itoa n = t ∧ least ≤ n ∧ n ≤ most then some n else none
  | _ => none
def numT (least most : Int) : List Tok → Option (Int × List Tok)
  | [] => none
  | t :: s => (gnumF t least most).map fun n => (n, s)
def pS (p : List Tok → Option (Ge × List Tok)) : Nat → List Tok → Option (List Ge × List Tok)
  | 0, _ => none
  | n + 1, s => match p s with
    | none => none
    | some (_, []) => none
    | some (g, t :: s') => if t = tShut then some ([g], s') else if t = tComma then (pS p n s').map fun r => (g :: r.1, r.2) else none
def pV (p : List Tok → Option (Ge × List Tok)) : List Tok → Option (List Ge × List Tok)
  | [] => none
  | t :: s => if t = tOpen then pS p s.length s else none
def pW (s : List Tok) : Option (Ge × List Tok) := match numT 0 7 s with
  | none => none
  | some (k, s) => match numT (-1000000) 1000000 s with
    | none => none
    | some (l, s) => match numT l 1000000 s with
      | none => none
      | some (t, s) => some (.wr k l t, s)
def pG : Nat → List Tok → Option (Ge × List Tok)
  | 0, _ => none
  | _ + 1, [] => none
  | k + 1, t :: s =>
    if t = tRead then (numT 0 7 s).map fun r => (.rd r.1, r.2)
    else if t = tWrite then pW s
    else if t = tLimit then match numT 0 1000 s with
      | none => none
      | some (n, s) => (pG k s).map fun r => (.lim n.toNat r.1, r.2)
    else if t = tMix then (pV (pG k) s).map fun r => (.mix r.1, r.2)
    else if t = tThen then (pV (pG k) s).map fun r => (.thn r.1, r.2)
    else none
end Go.Proofs.YtlhmldjgmbcocaaDoor
