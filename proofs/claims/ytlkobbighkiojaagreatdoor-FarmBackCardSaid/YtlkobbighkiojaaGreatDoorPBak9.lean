/- FarmBack. -/
import Derived.Test.YtlkobbighkiojaaGreatDoorPA
import Derived.Test.YtlkobbighkiojaaGreatDoorPEvo2
import Derived.Test.YtlkobbighkiojaaGreatDoorSxA
import Derived.Test.YtlkobbighkiojaaGreatDoorProg
import Derived.Laws.Externs
import Derived.Stop.Asserts
import Derived.Test.YtlkobbighkiojaaGreatDoorPStoB
import Derived.Shelf.Strings.SplitShaped
import Derived.Shelf.Strings.OnBuilder
import Derived.Shelf.Strings.BuilderK
import Derived.Test.YtlkobbighkiojaaGreatDoorPSxI
set_option maxHeartbeats 8000000
set_option linter.unusedVariables false
set_option linter.unusedSimpArgs false
namespace Go.Proofs.YtlkobbighkiojaaGreatDoor
open Tryz
def goneAt (s : SeeS) (n : Nat) : Bool := s.gone.getD n false
structure SeeOk (l : List Ev) (i : Nat) (s : SeeS) : Prop where
 glen : s.gone.length = s.ops.length
 called : ∀ n, n < s.ops.length → ∃ c : Nat, c < i ∧ (oAt s.ops n).call = c ∧ ∃ e, l[c]? = some e ∧ e.ty = 1 ∧ evOkB e = true ∧ e.proc = (oAt s.ops n).proc ∧ e.key = (oAt s.ops n).key ∧ e.kind = (oAt s.ops n).kind ∧ e.a = (oAt s.ops n).a ∧ e.b = (oAt s.ops n).b
 rise : ∀ m n, m < n → n < s.ops.length → (oAt s.ops m).call < (oAt s.ops n).call
 ret : ∀ n, n < s.ops.length → ((oAt s.ops n).ret = -1 ∧ (oAt s.ops n).res = 0) ∨ ∃ r : Nat, r < i ∧ (oAt s.ops n).ret = r ∧ (oAt s.ops n).call < r ∧ goneAt s n = false ∧ ∃ e, l[r]? = some e ∧ e.ty = 2 ∧ evOkB e = true ∧ e.res = (oAt s.ops n).res
 once : ∀ m n, m < n → n < s.ops.length → (oAt s.ops n).ret ≠ -1 → (oAt s.ops m).ret ≠ (oAt s.ops n).ret
 busy : ∀ p n, s.busy p = some n → n < s.ops.length ∧ (oAt s.ops n).proc = p ∧ (oAt s.ops n).ret = -1 ∧ goneAt s n = false ∧ s.lost p = none
 free : ∀ n, n < s.ops.length → (oAt s.ops n).ret = -1 → goneAt s n = false → s.busy (oAt s.ops n).proc = some n ∨ s.lost (oAt s.ops n).proc ≠ none
 order : ∀ m n, m < n → n < s.ops.length → (oAt s.ops m).proc = (oAt s.ops n).proc → goneAt s m = false → 0 ≤ (oAt s.ops m).ret ∧ (oAt s.ops m).ret < (oAt s.ops n).call
theorem seeOk_init (l : List Ev) : SeeOk l 0 initE := by
 refine ⟨rfl, ?_, ?_, ?_, ?_, ?_, ?_, ?_⟩
 ·intro n hn; exact absurd hn (Nat.not_lt_zero n)
 ·intro m n _ hn; exact absurd hn (Nat.not_lt_zero n)
 ·intro n hn; exact absurd hn (Nat.not_lt_zero n)
 ·intro m n _ hn; exact absurd hn (Nat.not_lt_zero n)
 ·intro p n hb; cases hb
 ·intro n hn; exact absurd hn (Nat.not_lt_zero n)
 intro m n _ hn; exact absurd hn (Nat.not_lt_zero n)
theorem goneAt_app {s : SeeS} {n : Nat} (h : s.gone.length = s.ops.length) : (s.gone ++ [false]).getD n false = goneAt s n := by
 unfold goneAt
 rw [List.getD_eq_getElem?_getD, List.getD_eq_getElem?_getD]
 rcases Nat.lt_trichotomy n s.gone.length with h1 | h1 | h1
 ·rw [List.getElem?_append_left h1]
 ·subst h1
  rw [List.getElem?_append_right (Nat.le_refl _), List.getElem?_eq_none (Nat.le_refl _), Nat.sub_self]; rfl
 rw [List.getElem?_eq_none (by simp; omega), List.getElem?_eq_none (by omega)]
theorem goneAt_set {s : SeeS} {n m : Nat} (h : n < s.gone.length) : (s.gone.set n true).getD m false = if n = m then true else goneAt s m := by
 unfold goneAt
 rw [List.getD_eq_getElem?_getD, List.getD_eq_getElem?_getD, List.getElem?_set]
 by_cases h1 : n = m
 ·subst h1; simp [h]
 rw [if_neg h1, if_neg h1]
theorem seeOk_begin {l : List Ev} {i : Nat} {s s' : SeeS} {e : Ev} (h : SeeOk l i s) (he : l[i]? = some e) (hok : evOkB e = true) (hty : e.ty = 1) (hs : beginF e i s = some s') : SeeOk l (i + 1) s' := by
 unfold beginF at hs
 split at hs
 ·cases hs
 rename_i hno
 have hb : s.busy e.proc = none := by
  cases hx : s.busy e.proc with
  | none => rfl
  | some n => exact absurd (.inl (by rw [hx]; simp)) hno
 have hl : s.lost e.proc = none := by
  cases hx : s.lost e.proc with
  | none => rfl
  | some n => exact absurd (.inr (by rw [hx]; simp)) hno
 injection hs with hs
 subst hs
 have hlen : (s.ops ++ [newOp e i]).length = s.ops.length + 1 := by simp
 have old : ∀ {n}, n < s.ops.length → oAt (s.ops ++ [newOp e i]) n = oAt s.ops n := fun hn => oAt_app_l hn
 have new : oAt (s.ops ++ [newOp e i]) s.ops.length = newOp e i := oAt_app_r
 have hgs : ∀ n, goneAt ⟨s.ops ++ [newOp e i], updI s.busy e.proc (some s.ops.length), s.lost, s.gone ++ [false]⟩ n = goneAt s n := fun n => goneAt_app h.glen
 have gnew : goneAt s s.ops.length = false := by
  unfold goneAt
  rw [List.getD_eq_getElem?_getD, List.getElem?_eq_none (by rw [h.glen]; exact Nat.le_refl _)]; rfl
 have two : ∀ {n}, n < s.ops.length + 1 → n < s.ops.length ∨ n = s.ops.length := fun hn => by omega
 refine ⟨by simp [h.glen], ?_, ?_, ?_, ?_, ?_, ?_, ?_⟩
 ·intro n hn
  rcases two (by simpa using hn) with h1 | h1
  ·obtain ⟨c, h2, h3⟩ := h.called n h1
   simp only [old h1]
   exact ⟨c, by omega, h3⟩
  subst h1
  simp only [new]
  exact ⟨i, by omega, rfl, e, he, hty, hok, rfl, rfl, rfl, rfl, rfl⟩
 ·intro m n hmn hn
  rcases two (by simpa using hn) with h1 | h1
  ·simp only [old h1, old (show m < s.ops.length by omega)]; exact h.rise m n hmn h1
  subst h1
  simp only [new, old hmn]
  obtain ⟨c, h2, h3, _⟩ := h.called m hmn
  rw [h3]; show (c : Int) < (i : Int); omega
 ·intro n hn
  rw [hgs]
  rcases two (by simpa using hn) with h1 | h1
  ·simp only [old h1]
   rcases h.ret n h1 with h2 | ⟨r, h2, h3⟩
   ·exact .inl h2
   exact .inr ⟨r, by omega, h3⟩
  subst h1
  simp only [new]
  exact .inl ⟨rfl, rfl⟩
 ·intro m n hmn hn hr
  rcases two (by simpa using hn) with h1 | h1
  ·simp only [old h1, old (show m < s.ops.length by omega)] at hr ⊢; exact h.once m n hmn h1 hr
  subst h1
  simp only [new] at hr
  exact absurd rfl hr
 ·intro p n hp
  rw [hgs]
  simp only [updI] at hp
  by_cases hpe : p = e.proc
  ·rw [if_pos hpe] at hp
   injection hp with hp
   subst hp hpe
   simp only [new]
   exact ⟨by simp, rfl, rfl, gnew, hl⟩
  rw [if_neg hpe] at hp
  obtain ⟨h1, h2⟩ := h.busy p n hp
  simp only [old h1]
  exact ⟨by simp; omega, h2⟩
 ·intro n hn hr hg
  rw [hgs] at hg
  simp only [updI]
  rcases two (by simpa using hn) with h1 | h1
  ·simp only [old h1] at hr ⊢
   rcases h.free n h1 hr hg with h2 | h2
   ·by_cases hpe : (oAt s.ops n).proc = e.proc
    ·rw [hpe, hb] at h2; cases h2
    rw [if_neg hpe]; exact .inl h2
   exact .inr h2
  subst h1
  simp only [new]
  exact .inl (if_pos rfl)
 intro m n hmn hn hp hg
 rw [hgs] at hg
 rcases two (by simpa using hn) with h1 | h1
 ·simp only [old h1, old (show m < s.ops.length by omega)] at hp ⊢; exact h.order m n hmn h1 hp hg
 subst h1
 simp only [new, old hmn] at hp ⊢
 have hp : (oAt s.ops m).proc = e.proc := hp
 rcases h.ret m hmn with ⟨h2, _⟩ | ⟨r, h2, h3, _⟩
 ·rcases h.free m hmn h2 hg with h4 | h4
  ·rw [hp, hb] at h4; cases h4
  rw [hp, hl] at h4; exact absurd rfl h4
 rw [h3]
 refine ⟨by omega, ?_⟩
 show (r : Int) < (i : Int)
 omega
theorem seeOk_end {l : List Ev} {i : Nat} {s s' : SeeS} {e : Ev} (h : SeeOk l i s) (he : l[i]? = some e) (hok : evOkB e = true) (hty : e.ty ≠ 1) (hs : endF e i s = some s') : SeeOk l (i + 1) s' := by
 unfold endF at hs
 split at hs
 ·cases hs
 rename_i n hb
 split at hs
 rotate_left
 ·cases hs
 rename_i hfit
 injection hs with hs
 subst hs
 obtain ⟨hn, hnp, hnr, hng, hnl⟩ := h.busy e.proc n hb
 have hng' : n < s.gone.length := by rw [h.glen]; exact hn
 -- the ops, and what is gone
 obtain ⟨O, hO⟩ : ∃ O, O = (if e.ty = 2 then s.ops.set n (endOp (oAt s.ops n) e i) else s.ops) := ⟨_, rfl⟩
 obtain ⟨G, hG⟩ : ∃ G, G = (if e.ty = 3 then s.gone.set n true else s.gone) := ⟨_, rfl⟩
 obtain ⟨Lo, hLo⟩ : ∃ Lo, Lo = (if e.ty = 4 then updI s.lost e.proc (some i) else s.lost) := ⟨_, rfl⟩
 rw [← hO, ← hG, ← hLo]
 have olen : O.length = s.ops.length := by rw [hO]; split <;> simp
 have glen : G.length = s.ops.length := by rw [hG]; split <;> simp [h.glen]
 have oat : ∀ m, oAt O m = if e.ty = 2 ∧ n = m then endOp (oAt s.ops n) e i else oAt s.ops m := by
  intro m
  rw [hO]
  by_cases h2 : e.ty = 2
  ·rw [if_pos h2, oAt_setE hn]
   by_cases hnm : n = m
   ·rw [if_pos hnm, if_pos ⟨h2, hnm⟩]
   rw [if_neg hnm, if_neg (fun hh => hnm hh.2)]
  rw [if_neg h2, if_neg (fun hh => h2 hh.1)]
 have gat : ∀ m, G.getD m false = if e.ty = 3 ∧ n = m then true else goneAt s m := by
  intro m
  rw [hG]
  by_cases h2 : e.ty = 3
  ·rw [if_pos h2, goneAt_set hng']
   by_cases hnm : n = m
   ·rw [if_pos hnm, if_pos ⟨h2, hnm⟩]
   rw [if_neg hnm, if_neg (fun hh => hnm hh.2)]
  rw [if_neg h2, if_neg (fun hh => h2 hh.1)]; rfl
 have gone_of : ∀ m, G.getD m false = false → goneAt s m = false := by
  intro m hm
  rw [gat] at hm
  split at hm
  ·cases hm
  exact hm
 -- fields that stay
 have stay : ∀ m, (oAt O m).proc = (oAt s.ops m).proc ∧ (oAt O m).key = (oAt s.ops m).key ∧ (oAt O m).kind = (oAt s.ops m).kind ∧ (oAt O m).a = (oAt s.ops m).a ∧ (oAt O m).b = (oAt s.ops m).b ∧ (oAt O m).call = (oAt s.ops m).call := by
  intro m
  rw [oat]
  split
  ·rename_i hh; obtain ⟨_, rfl⟩ := hh; exact ⟨rfl, rfl, rfl, rfl, rfl, rfl⟩
  exact ⟨rfl, rfl, rfl, rfl, rfl, rfl⟩
 have retO : ∀ m, (oAt O m).ret = if e.ty = 2 ∧ n = m then (i : Int) else (oAt s.ops m).ret := by
  intro m
  rw [oat]
  split <;> rfl
 have resO : ∀ m, (oAt O m).res = if e.ty = 2 ∧ n = m then e.res else (oAt s.ops m).res := by
  intro m
  rw [oat]
  split <;> rfl
 have retlt : ∀ m, m < s.ops.length → (oAt s.ops m).ret < i := by
  intro m hm
  rcases h.ret m hm with ⟨h2, _⟩ | ⟨r, h2, h3, _⟩
  ·rw [h2]; omega
  rw [h3]; omega
 have busyN : ∀ p m, s.busy p = some m → p ≠ e.proc → m ≠ n := fun p m hp hpe hmn => by
  subst hmn
  exact hpe ((h.busy p m hp).2.1.symm.trans hnp)
 refine ⟨by rw [glen, olen], ?_, ?_, ?_, ?_, ?_, ?_, ?_⟩
 ·intro m hm
  simp only at hm ⊢
  rw [olen] at hm
  obtain ⟨s1, s2, s3, s4, s5, s6⟩ := stay m
  obtain ⟨c, h2, h3⟩ := h.called m hm
  rw [s1, s2, s3, s4, s5, s6]
  exact ⟨c, by omega, h3⟩
 ·intro m k hmk hk
  simp only at hk ⊢
  rw [olen] at hk
  rw [(stay m).2.2.2.2.2, (stay k).2.2.2.2.2]
  exact h.rise m k hmk hk
 ·intro m hm
  simp only at hm
  rw [olen] at hm
  have hgm : goneAt ⟨O, updI s.busy e.proc none, Lo, G⟩ m = G.getD m false := rfl
  simp only [retO, resO, (stay m).2.2.2.2.2, hgm, gat]
  by_cases h2 : e.ty = 2 ∧ n = m
  ·simp only [if_pos h2]
   obtain ⟨h2, rfl⟩ := h2
   obtain ⟨c, h5, h6, _⟩ := h.called n hn
   refine .inr ⟨i, by omega, rfl, by rw [h6]; omega, ?_, e, he, h2, hok, rfl⟩
   rw [if_neg (fun hh => by rw [h2] at hh; exact absurd hh.1 (by decide))]
   exact hng
  simp only [if_neg h2]
  rcases h.ret m hm with h3 | ⟨r, h3, h4, h5, h6, h7⟩
  ·exact .inl h3
  refine .inr ⟨r, by omega, h4, h5, ?_, h7⟩
  rw [if_neg (fun hh => by obtain ⟨_, rfl⟩ := hh; rw [hnr] at h4; omega)]
  exact h6
 ·intro m k hmk hk
  simp only at hk
  rw [olen] at hk
  simp only [retO]
  intro hr
  have hm : m < s.ops.length := by omega
  have r1 := retlt m hm
  have r2 := retlt k hk
  by_cases hk2 : e.ty = 2 ∧ n = k
  ·rw [if_pos hk2, if_neg (fun hh => by have := hh.2; have := hk2.2; omega)]
   omega
  rw [if_neg hk2] at hr ⊢
  by_cases hm2 : e.ty = 2 ∧ n = m
  ·rw [if_pos hm2]; omega
  rw [if_neg hm2]; exact h.once m k hmk hk hr
 ·intro p m hp
  simp only [updI] at hp
  by_cases hpe : p = e.proc
  ·rw [if_pos hpe] at hp; cases hp
  rw [if_neg hpe] at hp
  obtain ⟨h1, h2, h3, h4, h5⟩ := h.busy p m hp
  have hmn := busyN p m hp hpe
  have hgm : goneAt ⟨O, updI s.busy e.proc none, Lo, G⟩ m = G.getD m false := rfl
  simp only [hgm, gat, retO, (stay m).1]
  rw [if_neg (fun hh => hmn hh.2.symm), if_neg (fun hh => hmn hh.2.symm)]
  refine ⟨by show m < O.length; rw [olen]; exact h1, h2, h3, h4, ?_⟩
  show Lo p = none
  rw [hLo]
  split
  ·unfold updI; rw [if_neg hpe]; exact h5
  exact h5
 ·intro m hm hr hg
  simp only at hm hr ⊢
  rw [olen] at hm
  have hgm : goneAt ⟨O, updI s.busy e.proc none, Lo, G⟩ m = G.getD m false := rfl
  rw [hgm] at hg
  rw [(stay m).1]
  have hgm2 := gone_of m hg
  by_cases hmn : n = m
  ·subst hmn
   have h2 : e.ty ≠ 2 := fun hh => by rw [retO, if_pos ⟨hh, rfl⟩] at hr; omega
   have h3 : e.ty ≠ 3 := fun hh => by rw [gat, if_pos ⟨hh, rfl⟩] at hg; cases hg
   have h4 : e.ty = 4 := by
    unfold evOkB inB at hok
    simp at hok
    omega
   refine .inr ?_
   show Lo (oAt s.ops n).proc ≠ none
   rw [hLo, if_pos h4, hnp]
   unfold updI
   rw [if_pos rfl]
   simp
  rw [retO, if_neg (fun hh => hmn hh.2)] at hr
  rcases h.free m hm hr hgm2 with h5 | h5
  ·by_cases hpe : (oAt s.ops m).proc = e.proc
   ·rw [hpe, hb] at h5
    injection h5 with h5
    exact absurd h5 hmn
   left
   unfold updI
   rw [if_neg hpe]
   exact h5
  right
  show Lo _ ≠ none
  rw [hLo]
  split
  ·unfold updI
   split
   ·simp
   exact h5
  exact h5
 intro m k hmk hk hp hg
 simp only at hk hp ⊢
 rw [olen] at hk
 have hgm : goneAt ⟨O, updI s.busy e.proc none, Lo, G⟩ m = G.getD m false := rfl
 rw [hgm] at hg
 rw [(stay m).1, (stay k).1] at hp
 have h1 := h.order m k hmk hk hp (gone_of m hg)
 rw [retO, (stay k).2.2.2.2.2]
 rw [if_neg (fun hh => by obtain ⟨_, rfl⟩ := hh; rw [hnr] at h1; omega)]
 exact h1
theorem seeOk_step {l : List Ev} {i : Nat} {s s' : SeeS} {e : Ev} (h : SeeOk l i s) (hi : l[i]? = some e) (hs : stepE e i s = some s') : SeeOk l (i + 1) s' := by
 unfold stepE at hs
 split at hs
 ·rename_i hok
  split at hs
  ·rename_i hty; exact seeOk_begin h hi hok hty hs
  rename_i hty; exact seeOk_end h hi hok hty hs
 cases hs
open Go Go.Extern
abbrev hdl (t : Nat) : Value := .pointer (some ⟨13, t, none⟩)
section
variable {P : Program} {ρ : Env} {o : Oper} {w w' : World} {x y z : Operand} {v : Value} {t t' : TypeId}
theorem rExt {f : FuncId} {bs : List Operand} {ts : Array TypeId} {vs : List Value} (ho : o.op = .call { callee := .value (.func f), args := bs.toArray, argTypes := ts }) (hv : bs.map (ev ρ) = vs) (hc : (callFunc f vs.toArray).run P w = .ok (.value v) w') : (execOp (ev ρ) o).run P w = .ok (.value v) w' := by
 simp [execOp, ho, resolve, ev, Deferred.ofValue, invoke, hv, hc]
theorem rExtI {name : String} {x : Operand} {bs : List Operand} {ts : Array TypeId} {vs : List Value} {u : Value} (ho : o.op = .call { callee := .invoke x name, args := bs.toArray, argTypes := ts }) (hx : ev ρ x = .iface t u) (hv : bs.map (ev ρ) = vs) (hc : (callMethod (.iface t u) name vs.toArray).run P w = .ok (.value v) w') : (execOp (ev ρ) o).run P w = .ok (.value v) w' := by
 simp [execOp, ho, resolve, invoke, hx, hv, Array.extract_append, hc]
end
section
variable {P : Program} {N : Nat} {ops : Array Oper} {Q : XPost} {rest : List Oper} {ρ : Env} {o : Oper} {w0 w : World} {S : Nat → Prop} {H : List Ent} {d t : Nat} {cs : Array Value}
theorem WL_xbox {v : Nat → Value} (hI : Inv S w0 w H) (hw : wantedR ops ρ o = true) (hd : o.dst = some d) (hN : Nat.blt d N = true) (hr : (execOp (ev ρ) o).run P w = .ok (.value (v w.heap.size)) (w.alloc (.cells cs t)))
  (h : ∀ g w', Inv S w0 w' (B g t cs :: H) → WL P N ops Q rest (upd ρ d (v g)) w') : WL P N ops Q (o :: rest) ρ w :=
 WL_eff hw hd hN hr (h _ _ (hI.box t cs))
end
theorem x_valueOfT (a : Addr) (w : World) : (callFunc 138 #[.iface 218 (.pointer (some a))]).run prog w = .ok (.value (.agg #[hdl 218, .pointer (some ⟨w.heap.size, 0, none⟩), .int .u64 150])) (w.alloc (.cells #[.pointer (some a)] 218)) := by kernel_rfl
theorem x_type (a : Addr) (w : World) : (callFunc 139 #[.agg #[hdl 218, .pointer (some a), .int .u64 150]]).run prog w = .ok (.value (.iface 323 (.agg #[hdl 218]))) w := by kernel_rfl
theorem x_kindP (w : World) : (callMethod (.iface 323 (.agg #[hdl 218])) "Kind" #[]).run prog w = .ok (.value (.int .u8 22)) w := by kernel_rfl
theorem x_elemT (w : World) : (callMethod (.iface 323 (.agg #[hdl 218])) "Elem" #[]).run prog w = .ok (.value (.iface 323 (.agg #[hdl 45]))) w := by kernel_rfl
theorem x_kindE (w : World) : (callMethod (.iface 323 (.agg #[hdl 45])) "Kind" #[]).run prog w = .ok (.value (.int .u8 2)) w := by kernel_rfl
theorem x_impl (w : World) : (callMethod (.iface 323 (.agg #[hdl 45])) "Implements" #[.iface 323 (.agg #[hdl 34])]).run prog w = .ok (.value (.bool true)) w := by kernel_rfl
theorem x_typeOf (v : Value) (w : World) : (callFunc 179 #[.iface 45 v]).run prog w = .ok (.value (.iface 323 (.agg #[hdl 45]))) w := by kernel_rfl
theorem x_assign (w : World) : (callMethod (.iface 323 (.agg #[hdl 45])) "AssignableTo" #[.iface 323 (.agg #[hdl 45])]).run prog w = .ok (.value (.bool true)) w := by kernel_rfl
theorem x_valueOfE (n : Int) (w : World) : (callFunc 138 #[.iface 45 (.int .i64 n)]).run prog w = .ok (.value (.agg #[hdl 45, .pointer (some ⟨w.heap.size, 0, none⟩), .int .u64 130])) (w.alloc (.cells #[.int .i64 n] 45)) := by kernel_rfl
theorem x_noAs (p : Value) (w : World) : (Instr.typeAssert (.iface 128 p) 34 328 true).run prog w = .ok (.tuple #[.nilIface, .bool false]) w := _root_.Go.run_typeAssert_lacksB underlying328 (by kernel_rfl) (by kernel_rfl) p 34 w
theorem x_hasUn (p : Value) (w : World) : (Instr.typeAssert (.iface 128 p) 34 331 true).run prog w = .ok (.tuple #[.iface 128 p, .bool true]) w := by kernel_rfl
theorem x_typeOfA (p : Value) (w : World) : (callFunc 179 #[.iface 128 p]).run prog w = .ok (.value (.iface 323 (.agg #[hdl 128]))) w := by kernel_rfl
theorem x_noAssign (w : World) : (callMethod (.iface 323 (.agg #[hdl 128])) "AssignableTo" #[.iface 323 (.agg #[hdl 45])]).run prog w = .ok (.value (.bool false)) w := by kernel_rfl
theorem x_unwrap (p : Value) (w : World) : (callMethod (.iface 128 p) "Unwrap" #[]).run prog w = .ok (.enter 252 #[p]) w := by kernel_rfl
theorem rlm (z : Sem Value) (f : TypeId → Addr → Nat → Nat → Sem Value) (v : Value) :
  ReflectliteValue.method z f #[v] = (do match ← ReflectliteValue.parts v with | none => z | some (t, a, fl) => f t a fl (fl % 32)) := rfl
theorem x_partsP (a : Addr) (w : World) : (ReflectliteValue.parts (.agg #[hdl 218, .pointer (some a), .int .u64 150])).run prog w = .ok (some (218, a, 150)) w := by kernel_rfl
theorem x_isNil (a p : Addr) (W : World) (ha : W.cell? a = some (.pointer (some p))) :
  (callFunc 140 #[.agg #[hdl 218, .pointer (some a), .int .u64 150]]).run prog W = .ok (.value (.bool false)) W := by
 rw [@run_callFunc_extern prog 140 _ (ReflectliteValue.method (ReflectliteValue.valueError "reflectlite.Value.IsNil" 0) ReflectliteValue.isNil) func140 (by kernel_rfl) (by kernel_rfl) (by kernel_rfl) (by kernel_rfl), rlm]
 simp only [Sem.run_bind, x_partsP, Result.andThen]
 simp [ReflectliteValue.isNil, loadVar, isAgg, underlying, underlying218, ha, Result.andThen]
theorem x_elemOf (w : World) : (Rtype.elem? 218).run prog w = .ok (some 45) w := by kernel_rfl
theorem x_mkE (p : Addr) (w : World) : (ReflectliteValue.mk 45 p ReflectliteValue.flagAddr).run prog w = .ok (.agg #[hdl 45, .pointer (some p), .int .u64 386]) w := by kernel_rfl
theorem x_elemV (a p : Addr) (W : World) (ha : W.cell? a = some (.pointer (some p))) :
  (callFunc 180 #[.agg #[hdl 218, .pointer (some a), .int .u64 150]]).run prog W = .ok (.value (.agg #[hdl 45, .pointer (some p), .int .u64 386])) W := by
 rw [@run_callFunc_extern prog 180 _ (ReflectliteValue.method (ReflectliteValue.valueError "reflectlite.Value.Elem" 0) ReflectliteValue.elem) func180 (by kernel_rfl) (by kernel_rfl) (by kernel_rfl) (by kernel_rfl), rlm]
 simp only [Sem.run_bind, x_partsP, Result.andThen]
 simp [ReflectliteValue.elem, loadVar, isAgg, underlying, underlying218, ha, Result.andThen, x_elemOf, x_mkE]
theorem rls (v x : Value) : ReflectliteValue.set #[v, x] = (do
  let (some (dst, a, fl), some (src, b, _)) := (← ReflectliteValue.parts v, ← ReflectliteValue.parts x)
   | unsupported (.noEntry "extern/(internal/reflectlite.Value).Set.zeroValue")
  if fl / ReflectliteValue.flagAddr % 2 == 0 then unsupported (.noEntry "extern/(internal/reflectlite.Value).Set.unaddressable")
  let val ← loadVar src b
  if ← Rtype.directlyAssignable dst src then storeVar dst a val
  else if ← Rtype.implements dst src then
   if (← Rtype.kind src) == 20 then
    match val with
    | .nilIface => unsupported (.noEntry "extern/reflectlite: a nil value of one interface type handed on as a value of another")
    | _ => storeVar dst a val
   else storeVar dst a (.iface src val)
  else panicString ("reflectlite.Set: value of type " ++ (← Rtype.spelt src) ++ " is not assignable to type " ++ (← Rtype.spelt dst))
  pure (.tuple #[])) := rfl
theorem x_partsE (a : Addr) (w : World) : (ReflectliteValue.parts (.agg #[hdl 45, .pointer (some a), .int .u64 386])).run prog w = .ok (some (45, a, 386)) w := by kernel_rfl
theorem x_partsF (a : Addr) (w : World) : (ReflectliteValue.parts (.agg #[hdl 45, .pointer (some a), .int .u64 130])).run prog w = .ok (some (45, a, 130)) w := by kernel_rfl
theorem x_direct (w : World) : (Rtype.directlyAssignable 45 45).run prog w = .ok true w := by kernel_rfl
theorem x_set (ta b : Addr) (n : Int) (old : Value) (W : World) (hb : W.cell? b = some (.int .i64 n)) (ht : W.cell? ta = some old) (hf : W.frozen? ta = false) :
  (callFunc 181 #[.agg #[hdl 45, .pointer (some ta), .int .u64 386], .agg #[hdl 45, .pointer (some b), .int .u64 130]]).run prog W = .ok (.value (.tuple #[])) (W.setCell ta (.int .i64 n)) := by
 rw [@run_callFunc_extern prog 181 _ ReflectliteValue.set func181 (by kernel_rfl) (by kernel_rfl) (by kernel_rfl) (by kernel_rfl), rls]
 simp only [Sem.run_bind, x_partsE, x_partsF, Result.andThen]
 simp [ReflectliteValue.flagAddr, loadVar, isAgg, underlying, yy45, hb, Result.andThen, x_direct, storeVar, Value.cells, storeCells, Addr.add]
 rw [_root_.Go.run_store prog W ta _ _ (by rfl)]
 simp [ht, hf]
theorem rTA {P : Program} {ρ : Env} {o : Oper} {w : World} {x : Operand} {s d : TypeId} {c : Bool} {u r : Value} (ho : o.op = .typeAssert x s d c) (hx : ev ρ x = u) (hr : (Instr.typeAssert u s d c).run P w = .ok r w) : Runs P ρ o w r := by
 simp [Runs, execOp, ho, hx, hr]
abbrev patT : Nat := 128
def AtP (w : World) (b o : Nat) (n : Int) : Prop := w.cell? ⟨b, o, none⟩ = some (.int .i64 n)
theorem AtP.cell {w : World} {b o : Nat} {n : Int} (h : AtP w b o n) : w.cell? ⟨b, o, none⟩ = some (.int .i64 n) := h
theorem AtP.keep {w w' : World} {b o : Nat} {n : Int} (_ : AtP w b o n) (h : w'.cell? ⟨b, o, none⟩ = some (.int .i64 n)) : AtP w' b o n := h
def IsE (w : World) (v : Value) (n : Int) : Prop := v = .iface 45 (.int .i64 n) ∨ ∃ b o : Nat, v = .iface patT (.pointer (some ⟨b, o, none⟩)) ∧ AtP w b o n
theorem unwrap_any (b o : Nat) (n : Int) (w0 : World) (h : w0.cell? ⟨b, o, none⟩ = some (.int .i64 n)) : Cq 252 #[.pointer (some ⟨b, o, none⟩)] w0 fun en w' => en = .returned (.iface 45 (.int .i64 n)) ∧ Pure w0 w' := by
 have hI := Inv.start (fun _ => False) w0
 refine Vn func252 rfl ?_
 refine Wq (Vj rfl (Wn (Wq (V9 rfl (Vb rfl (Tj rfl (V5 (.int .i64 _) rfl (hI.oldp h) (T6 rfl yy45 rfl (Vp rfl (Wn ?_))))))))))
 exact WR (r1_ 2 rfl ⟨rfl, hI.pu⟩)
def eμ (v : Value) : Nat := match v with
 | .iface t _ => if t = patT then 1 else 0
 | _ => 0
theorem as1_any (e : Value) (n : Int) (old : Value) (tb a : Nat) (w0 : World) (he : IsE w0 e n) (hB : Blk w0 tb 45 #[old]) (ha : w0.cell? ⟨a, 0, none⟩ = some (.pointer (some ⟨tb, 0, none⟩))) (hne : ∀ b o, e = .iface patT (.pointer (some ⟨b, o, none⟩)) → b ≠ tb) (hat : a ≠ tb) :
  Cq 141 #[e, .iface 218 (.pointer (some ⟨tb, 0, none⟩)), .agg #[hdl 218, .pointer (some ⟨a, 0, none⟩), .int .u64 150], .iface 323 (.agg #[hdl 45])] w0
   fun en w' => en = .returned (.bool true) ∧ Inv (fun k => k = tb) w0 w' [B tb 45 #[.int .i64 n]] := by
 have hI := Inv.own1 hB
 refine Vn func141 rfl ?_
 refine Wq (Tb (.agg _) _ hI rfl ?_)
 rintro b6 w - - hI
 refine V8 rfl (Wn (Wb ?_))
 refine W_loop (fun ρ w => ∃ e, IsE w0 e n ∧ (∀ b o, e = .iface patT (.pointer (some ⟨b, o, none⟩)) → b ≠ tb) ∧ Has ρ [(0, e), (1, .iface 218 (.pointer (some ⟨tb, 0, none⟩))), (3, .iface 323 (.agg #[hdl 45])), (6, .pointer (some ⟨b6, 0, none⟩))] ∧ Inv (fun k => k = tb) w0 w [B b6 261 #[hdl 218, .pointer (some ⟨a, 0, none⟩), .int .u64 150], B tb 45 #[old]]) (fun ρ _ => eμ (ρ 0))
  ⟨e, he, hne, ⟨rfl, rfl, rfl, rfl, trivial⟩, hI⟩ ?_
 clear hI he hne e
 rintro ρ w ⟨e, he, hne, hH, hI⟩
 obtain ⟨σ, rfl⟩ := hH.open
 refine Wb ?_
 rcases he with rfl | ⟨bb, oo, rfl, hc⟩
 ·refine Ws (Wq (Vy rfl ?_))
  refine Wv rfl (rExt rfl rfl (x_typeOf _ _)) ?_
  refine Vy rfl ?_
  refine Wv rfl (rExtI rfl rfl rfl (x_assign _)) ?_
  refine Wn (Wc true rfl (Wq (Tu 3 rfl hI.g0 ?_)))
  refine Wv rfl (rExt rfl rfl (x_elemV _ _ _ (hI.old ha hat))) ?_
  refine Vy rfl ?_
  refine WL_xbox (v := fun g => .agg #[hdl 45, .pointer (some ⟨g, 0, none⟩), .int .u64 130]) hI rfl rfl rfl (rExt rfl rfl (x_valueOfE _ _)) ?_
  intro bv w hI
  refine WL_eff rfl rfl rfl (rExt rfl rfl (x_set _ _ n old _ (hI.c0 rfl) (hI.c2 rfl) (hI.f2 0))) ?_
  have hI := hI.s2 0 (.int .i64 n)
  generalize World.setCell _ _ _ = w at hI ⊢
  refine Wn (Wq (V8 rfl (Wn ?_)))
  exact WR (r1_ 8 rfl ⟨rfl, hI.d0.d0⟩)
 refine Ws (Wq (Vy rfl ?_))
 refine Wv rfl (rExt rfl rfl (x_typeOfA _ _)) ?_
 refine Vy rfl ?_
 refine Wv rfl (rExtI rfl rfl rfl (x_noAssign _)) ?_
 refine Wn (Wc false rfl (Wk (Ws (Wq (Vy rfl ?_)))))
 refine Wv rfl (rTA rfl rfl (x_noAs _ _)) ?_
 refine Vz rfl (Vg rfl (Vg rfl (Vj rfl (V8 rfl (Wn (Wq (V6 rfl (V6 rfl (V4 rfl (V4 rfl (V4 rfl (Ve rfl ?_))))))))))))
 refine Wn (Wc false rfl (Wk (Wq (Vy rfl (Wn (Wb (Ws (Wr ?_))))))))
 refine Wv rfl (rTA rfl rfl (x_hasUn _ _)) ?_
 refine Vg rfl (Vg rfl (Wn (Wc true rfl (Wq (Vp rfl (Wn (Wq (Vy rfl ?_))))))))
 refine WL_call rfl rfl rfl (rCallI (f := 252) (vs := []) rfl rfl rfl (fun _ => x_unwrap _ _)) ?_
 refine (unwrap_any bb oo n _ (hI.old hc.cell (hne bb oo rfl))).mono (okP hI fun w1 hp hI => ?_)
 refine Vp rfl (Wn (Wq (Vy rfl ?_)))
 refine Wv rfl (by exact rIfaceEq rfl yy34 rfl rfl) ?_
 refine Wn (Wc false rfl (Wk ?_))
 exact ⟨⟨_, .inl rfl, fun b o h => (by injection h with h; exact absurd h (by decide)), ⟨rfl, rfl, rfl, rfl, trivial⟩, hI⟩, by show 0 < 1; omega⟩
theorem as0_any (e : Value) (n : Int) (old : Value) (tb : Nat) (w0 : World) (he : IsE w0 e n) (hB : Blk w0 tb 45 #[old]) (hg : w0.cell? ⟨2, 0, none⟩ = some (.iface 323 (.agg #[hdl 34]))) (hne : ∀ b o, e = .iface patT (.pointer (some ⟨b, o, none⟩)) → b ≠ tb) (h0 : 2 ≠ tb) :
  Cq 97 #[e, .iface 218 (.pointer (some ⟨tb, 0, none⟩))] w0 fun en w' => en = .returned (.bool true) ∧ Inv (fun k => k = tb) w0 w' [B tb 45 #[.int .i64 n]] := by
 have hI := Inv.own1 hB
 have he' : e ≠ .nilIface ∧ ∃ t u, e = .iface t u := by
  rcases he with rfl | ⟨b, o, rfl, _⟩ <;> exact ⟨by simp, _, _, rfl⟩
 obtain ⟨_, t, u, rfl⟩ := he'
 refine Vn func97 rfl ?_
 refine Wq (V8 rfl (Wn (Ws (Wq (Vy rfl ?_)))))
 refine Wv rfl (by exact rIfaceEq rfl yy34 rfl rfl) ?_
 refine Wn (Wc false rfl (Wk (Ws (Wq (Vy rfl ?_)))))
 refine Wv rfl (by exact rIfaceEq rfl underlying20 rfl rfl) ?_
 refine Wn (Wc false rfl (Wk (Wq (Vy rfl ?_))))
 refine WL_xbox (v := fun g => .agg #[hdl 218, .pointer (some ⟨g, 0, none⟩), .int .u64 150]) hI rfl rfl rfl (rExt rfl rfl (x_valueOfT _ _)) ?_
 intro bv w hI
 refine T1 (.agg #[.pointer none, .pointer none, .int .u64 0]) (#[.pointer none, .pointer none, .int .u64 0]) hI rfl ?_
 rintro b5 w - - hI
 refine WL_stw0 (u := .agg _) (vs := _) (n := 3) hI rfl rfl rfl rfl rfl rfl (by kernel_rfl) (by rfl) (by rfl) (by rfl) ?_
 intro w hI
 refine Wn (Wq (Tu 3 rfl hI.g0 ?_))
 refine Wv rfl (rExt rfl rfl (x_type _ _)) ?_
 refine Vp rfl (Wn (Ws (Wq (Vy rfl ?_))))
 refine Wv rfl (rExtI rfl rfl rfl (x_kindP _)) ?_
 refine U2 rfl (V6 rfl (Tu 3 rfl hI.g0 ?_))
 refine Wv rfl (rExt rfl rfl (x_isNil _ _ _ (hI.c1 rfl))) ?_
 refine Ve rfl (Wn (Wc false rfl (Wk (Wq (Vy rfl ?_)))))
 refine Wv rfl (rExtI rfl rfl rfl (x_elemT _)) ?_
 refine Vp rfl (Wn (Ws (Wq (Vy rfl ?_))))
 refine Wv rfl (rExtI rfl rfl rfl (x_kindE _)) ?_
 refine U1 rfl (V6 rfl (Vy rfl ?_))
 refine Wv rfl (rLd rfl (by kernel_rfl) rfl (hI.old hg h0)) ?_
 refine Wv rfl (rExtI rfl rfl rfl (x_impl _)) ?_
 refine T9 rfl (Vk rfl (Wn (Wc false rfl (Wk (Wq (Vy rfl (Vy rfl (Tu 3 rfl hI.g0 (Vy rfl (Va [_, _, .agg _, _] rfl func141 rfl ?_))))))))))
 refine (as1_any (.iface t u) n old tb bv _ ?_ hI.g2 (hI.c1 rfl) hne ?_).mono ?_
 ·rcases he with he | ⟨b, o, he, hc⟩
  ·exact .inl he
  exact .inr ⟨b, o, he, hc.keep (hI.old hc.cell (hne b o he))⟩
 ·exact fun e => hI.disj (i := 1) (j := 2) rfl rfl (by decide) bv rfl e
 rintro e w1 ⟨rfl, hJ⟩
 refine rV ?_
 have hI' : Inv (fun k => k = tb) w0 w1 [B tb 45 #[.int .i64 n]] := ⟨hI.chg.trans' hJ.chg (fun k _ hk => hk), hJ.ok, fun e he k hk => by rcases List.mem_singleton.1 he with rfl; exact .inl hk, hJ.apart⟩
 clear hI
 have hI := hI'
 refine V8 rfl (Wn ?_)
 exact WR (r1_ 4 rfl ⟨rfl, hI⟩)
theorem IsE.pure {w w' : World} {e : Value} {n : Int} (h : IsE w e n) (hp : Pure w w') : IsE w' e n := by
 rcases h with h | ⟨b, o, h, hc⟩
 ·exact .inl h
 exact .inr ⟨b, o, h, hc.keep ((Inv.start (fun _ => False) w |>.pure hp).oldp hc.cell)⟩
theorem tell_any (e : Value) (n : Int) (w0 : World) (he : IsE w0 e n) (hg : w0.cell? ⟨2, 0, none⟩ = some (.iface 323 (.agg #[hdl 34]))) :
  Cq 53 #[e] w0 fun en w' => en = .returned (.int .i64 n) ∧ Pure w0 w' := by
 have hI := Inv.start (fun _ => False) w0
 have he' : ∃ t u, e = .iface t u := by
  rcases he with rfl | ⟨b, o, rfl, _⟩ <;> exact ⟨_, _, rfl⟩
 obtain ⟨t, u, rfl⟩ := he'
 refine Vn func53 rfl ?_
 refine Wq (Vc rfl (Wn (Ws (Wq (Vy rfl ?_)))))
 refine Wv rfl (by exact rIfaceEq rfl yy34 rfl rfl) ?_
 refine Wn (Wc false rfl (Wk (Wq (T1 (.int .i64 0) (#[.int .i64 0]) hI rfl ?_))))
 rintro b3 w - - hI
 refine Wn ?_
 have hnew : w0.heap.size ≤ b3 := (hI.own _ (List.mem_singleton.2 rfl) b3 rfl).resolve_left (fun h => h)
 have hlt0 : 2 < w0.heap.size := World.block_lt_of_cell? w0 _ hg
 refine Ws (Wq (Vy rfl (T6 rfl underlying218 rfl (Va [_, _] rfl func97 rfl ?_))))
 refine (as0_any (.iface t u) n _ b3 _ (he.pure hI.pu) hI.g0 (hI.oldp hg) ?_ (by omega)).mono ?_
 ·intro b o h hb
  rcases he with he | ⟨b', o', he, hc⟩
  ·rw [he] at h
   injection h with h
   exact absurd h (by decide)
  rw [he] at h
  injection h with _ h
  injection h with h
  injection h with h
  injection h with h _
  have := World.block_lt_of_cell? w0 _ hc.cell
  simp only at this
  omega
 rintro e w1 ⟨rfl, hJ⟩
 refine rV ?_
 have hI' : Inv NF w0 w1 [B b3 45 #[.int .i64 n]] := ⟨hI.chg.trans' hJ.chg (fun k hk e => by subst e; omega), hJ.ok, fun e he k hk => by rcases List.mem_singleton.1 he with rfl; have : k = b3 := hk; exact .inr (by omega), hJ.apart⟩
 clear hI
 have hI := hI'
 refine Wn (Wc true rfl (Wq (V5 (.int .i64 _) rfl (hI.c0 rfl) (Vc rfl (Wn ?_)))))
 exact WR (r1_ 2 rfl ⟨rfl, hI.pu⟩)
open Go.RowKit
abbrev GlobOk (w : World) : Prop := w.cell? ⟨2, 0, none⟩ = some (.iface 323 (.agg #[hdl 34]))
theorem at_any (z : Int) (i : Int) (w0 : World) (hg : GlobOk w0) : Cq 46 #[.iface 45 (.int .i64 z), .int .i64 i] w0 fun en w' => (∃ b, en = .returned (.iface 128 (.pointer (some ⟨b, 0, none⟩)))) ∧ Pure w0 w' := by
 have hI := Inv.start (fun _ => False) w0
 refine Vn func46 rfl ?_
 refine Wq (Vj rfl (Wn (Wq (Vy rfl (Va [_] rfl func53 rfl ?_)))))
 refine (tell_any _ z _ (.inl rfl) (hI.oldp hg)).mono (okP hI fun w1 hp hI => ?_)
 refine V0 rfl (Td [(0, .int .i64 _), (1, .int .i64 _)] [_, _] rfl [.int .i64 0, .int .i64 0] [0, 1] rfl (fun _ => by kernel_rfl) (Tb (.agg _) (#[_, _]) hI rfl ?_))
 rintro b9 w - - hI
 refine T6 rfl underlying128 rfl (Vp rfl (Wn ?_))
 exact WR (r1_ 4 rfl ⟨⟨_, rfl⟩, hI.pu⟩)
def EvsR (w : World) (D : Nat → Prop) (v : Value) (l : List Ev) : Prop := Rd w D 7 v l.length (l.flatMap evL)
def evAt (l : List Ev) (k : Nat) : Ev := l.getD k ⟨0, 0, 0, 0, 0, 0, 0⟩
theorem evAt_get {l : List Ev} {k : Nat} (hk : k < l.length) : l[k]? = some (evAt l k) := by unfold evAt; rw [List.getD_eq_getElem?_getD, List.getElem?_eq_getElem hk]; rfl
theorem EvsR.pure {w w' : World} {D : Nat → Prop} {v : Value} {l : List Ev} (h : EvsR w D v l) (hp : Pure w w') : EvsR w' D v l := Rd.pure h hp
theorem EvsR.at {w : World} {D : Nat → Prop} {A : Option Addr} {n c : Nat} {l : List Ev} (h : EvsR w D (.slice A n c) l) {k : Nat} (hk : k < l.length) : ∃ b o, A = some ⟨b, o, none⟩ ∧ ∀ (j : Nat) (u : Value), (evL (evAt l k))[j]? = some u → w.cell? ⟨b, o + k * 7 + j, none⟩ = some u := by
 obtain ⟨A1, c1, hv, hnc, hcm, hlen, hcell⟩ := h
 injection hv with e1 e2 e3
 subst e1 e3
 obtain ⟨b, o, hbo, _, hcl⟩ := hcell (by omega)
 refine ⟨b, o, hbo, fun j u hj => ?_⟩
 have hj8 : j < 7 := by have := (List.getElem?_eq_some_iff.1 hj).1; simpa [evL] using this
 rw [Nat.add_assoc]
 refine hcl _ u ?_
 rw [flatN (f := evL) (fun a => rfl) l k _ (evAt_get hk) j hj8]
 exact hj
theorem EvsR.len {w : World} {D : Nat → Prop} {A : Option Addr} {n c : Nat} {l : List Ev} (h : EvsR w D (.slice A n c) l) : n = l.length ∧ n ≤ c ∧ c ≤ 9223372036854775807 := by
 obtain ⟨A', c', he, h1, h2⟩ := Rd.form h
 injection he with _ e2 e3
 subst e2 e3
 exact ⟨rfl, h1, h2⟩
def EvPost (r : Option (List Op8)) (w0 : World) (en : Ending) (w' : World) : Prop := match r with
 | none => Pure w0 w' ∧ ∃ t v, en = .returned (.tuple #[.slice none 0 0, .iface t v])
 | some out => ∃ A' c', en = .returned (.tuple #[.slice A' out.length c', .nilIface]) ∧ Inv NF w0 w' [OpsE A' c' out]
theorem EvPost.no {r : Option (List Op8)} {w0 w' : World} {t : TypeId} {v : Value} (h : r = none) (hp : Pure w0 w') : EvPost r w0 (.returned (.tuple #[.slice none 0 0, .iface t v])) w' := by subst h; exact ⟨hp, t, v, rfl⟩
theorem EvPost.yes {r : Option (List Op8)} {out : List Op8} {w0 w' : World} {A' : Option Addr} {c' : Nat} (h : r = some out) (hI : Inv NF w0 w' [OpsE A' c' out]) : EvPost r w0 (.returned (.tuple #[.slice A' out.length c', .nilIface])) w' := by subst h; exact ⟨A', c', rfl, hI⟩
theorem row_cell1 {w : World} {e b n c k : Nat} {xs : List Value} {u : Value} (h : w.ownsRow 0 e 1 (.slice (some ⟨b, 0, none⟩) n c) n xs) (hk : xs[k]? = some u) : w.cell? ⟨b, k, none⟩ = some u := by
 have hn : 0 < n := by
  have h1 := (List.getElem?_eq_some_iff.1 hk).1
  have h2 : xs.length = n * 1 := h.1
  omega
 have := row_cellS h hk hn
 rwa [Nat.zero_add] at this
theorem stepE_len {e : Ev} {i : Nat} {s s' : SeeS} (h : stepE e i s = some s') : s'.ops.length ≤ s.ops.length + 1 := by
 unfold stepE at h
 split at h
 rotate_left
 ·cases h
 split at h
 ·unfold beginF at h
  split at h
  ·cases h
  injection h with h; subst h; simp
 unfold endF at h
 split at h
 ·cases h
 split at h
 ·injection h with h
  subst h
  simp only
  split <;> simp
 cases h
theorem evops_any (A : Option Addr) (n c : Nat) (l : List Ev) (D : Nat → Prop) (w0 : World) (h : EvsR w0 D (.slice A n c) l) (hg : GlobOk w0) : Cq 18 #[.slice A n c] w0 (EvPost (evF l) w0) := by
 obtain ⟨hn, hc1, hc2⟩ := h.len
 subst hn
 have hI := Inv.start (fun _ => False) w0
 refine Vn func18 rfl ?_
 refine Wq (Vo rfl (Vj rfl (Wn ?_)))
 by_cases h120 : l.length ≤ 120
 rotate_left
 ·refine Ws (Wq (Vi rfl (Vs rfl yy28 rfl (Tq rfl (Wn (Wc true rfl (Wq (T6 rfl yy45 rfl (Vo rfl (Vp rfl (Wn ?_)))))))))))
  exact WR (r2_ 2 3 rfl (EvPost.no (by unfold evF; exact if_neg h120) hI.pu))
 have hev : evF l = (runE (l.drop 0) 0 initE).map outF := by unfold evF; exact if_pos h120
 refine Ws (Wq (Vi rfl (Vs rfl yy28 rfl (Tc rfl (Wn (Wc false rfl (Wk (Ws (Wr ?_)))))))))
 refine WL_mkMap hI rfl rfl rfl rfl ?_
 rintro b15 w hI
 refine WL_mkMap hI rfl rfl rfl rfl ?_
 rintro b16 w hI
 refine Td [(1, .map _), (2, .map _)] [_, _, _, _] rfl [.slice none 0 0, .map none, .map none, .slice none 0 0] [1, 2] rfl (fun _ => by kernel_rfl) (Tb (.agg _) (#[_, _, _, _]) hI rfl ?_)
 rintro b18 w - - hI
 refine Tm rfl (Wn ?_)
 replace hI : Inv NF w0 w (prtS b18 none 0 b15 b16 none 0 initE) := by
  have h1 := (hI.sw1).fresh (e := BoolE none 0 []) (Pure.refl w) (Row.nil w 0 4 1) (fun k hk => by cases hk)
  have h2 := (h1.sw0).fresh (e := OpsE none 0 []) (Pure.refl w) (Row.nil w 0 120 8) (fun k hk => by cases hk)
  exact h2.sw0
 refine Wx (fun ρ w => ∃ (s : SeeS) (Ao : Option Addr) (co : Nat) (Ag : Option Addr) (cg : Nat), evF l = some (outF s) ∧ SeeOk l l.length s ∧ s.ops.length ≤ l.length ∧ Has ρ [(4, .pointer (some ⟨b18, 0, none⟩))] ∧ Inv NF w0 w (prtS b18 Ao co b15 b16 Ag cg s)) ?_ ?_
 ·refine Wq (Vi rfl (Vs rfl yy28 rfl (V0 rfl (Wn (Wb ?_)))))
  refine Wl (fun mu ρ w => ∃ (k : Nat) (s : SeeS) (Ao : Option Addr) (co : Nat) (Ag : Option Addr) (cg : Nat), mu = l.length - k ∧ k ≤ l.length ∧ evF l = (runE (l.drop k) k s).map outF ∧ SeeOk l k s ∧ s.ops.length ≤ k ∧ Has ρ [(21, .int .i64 (k : Int)), (20, .int .i64 (l.length : Int)), (19, .slice A l.length c), (4, .pointer (some ⟨b18, 0, none⟩))] ∧ Inv NF w0 w (prtS b18 Ao co b15 b16 Ag cg s)) l.length
   ⟨0, initE, none, 0, none, 0, rfl, by omega, hev, seeOk_init l, Nat.le_refl _, ⟨rfl, rfl, rfl, rfl, trivial⟩, hI⟩ ?_
  clear hI hev
  rintro mu ρ w ⟨k, s, Ao, co, Ag, cg, rfl, hk, hev, hok, hsl, hH, hI⟩
  obtain ⟨σ, rfl⟩ := hH.open
  by_cases hkl : k < l.length
  rotate_left
  ·obtain rfl : k = l.length := by omega
   rw [List.drop_of_length_le (Nat.le_refl _)] at hev
   refine Wq (Vr rfl (Wn (Ws (Wc false rfl ?_))))
   refine WE ?_
   exact ⟨s, Ao, co, Ag, cg, hev, hok, hsl, ⟨rfl, trivial⟩, hI⟩
  obtain ⟨bA, oA, rfl, hoc⟩ := (h.pure hI.pu).at hkl
  have hget := evAt_get hkl
  have hdrop : l.drop k = evAt l k :: l.drop (k + 1) := by
   rw [List.drop_eq_getElem_cons hkl]
   congr 1
   have := hget
   rw [List.getElem?_eq_getElem hkl] at this
   injection this
  rw [hdrop, runE] at hev
  have hstep := fun s' (hs : stepE (evAt l k) k s = some s') => seeOk_step hok hget hs
  have hbl := fun n (hb : s.busy (evAt l k).proc = some n) => (hok.busy _ n hb).1
  have hgl := hok.glen
  generalize hpk : evAt l k = pk at hoc hev hstep hbl
  obtain ⟨e0, e1, e2, e3, e4, e5, e6⟩ := pk
  refine Wq (Vt rfl (Wn (Ws (Wc true rfl (Wk (Ws (Wb (Wq (V0 rfl (Tt 7 rfl yy28 rfl (Uo 7 rfl (by rfl) hoc ?_)))))))))))
  refine T1 (.agg zI7) (zI7) hI rfl ?_
  rintro b6 w - - hI
  refine Vc rfl (T7 7 (#[_, _, _, _, _, _, _]) (.agg _) hI rfl ?_)
  intro w hI
  refine Wn ?_
  simp only [evL] at hI
  refine Wx (fun ρ w => ∃ v7, Has ρ [(7, v7), (21, .int .i64 (k : Int)), (20, .int .i64 (l.length : Int)), (19, .slice (some ⟨bA, oA, none⟩) l.length c), (4, .pointer (some ⟨b18, 0, none⟩)), (5, .int .i64 (k : Int)), (6, .pointer (some ⟨b6, 0, none⟩))] ∧ Inv NF w0 w (B b6 70 #[.int .i64 e0, .int .i64 e1, .int .i64 e2, .int .i64 e3, .int .i64 e4, .int .i64 e5, .int .i64 e6] :: prtS b18 Ao co b15 b16 Ag cg s) ∧ ((evOkB ⟨e0, e1, e2, e3, e4, e5, e6⟩ = true ∧ v7 = .nilIface) ∨ (evOkB ⟨e0, e1, e2, e3, e4, e5, e6⟩ = false ∧ ∃ z : Int, v7 = .iface 45 (.int .i64 z)))) ?_ ?_
  ·refine Wr (Tu 7 rfl hI.g0 (Va [.agg _] rfl func43 rfl ?_))
   refine (check_any ⟨e0, e1, e2, e3, e4, e5, e6⟩ _).mono ?_
   rintro e w1 ⟨hp, hr⟩
   obtain ⟨v7, rfl⟩ : ∃ v, e = .returned v := by rcases hr with ⟨_, rfl⟩ | ⟨_, x, _, rfl⟩ <;> exact ⟨_, rfl⟩
   refine rV ?_
   have hI := hI.pure hp
   refine Tn rfl (Wn ?_)
   refine ⟨v7, ⟨rfl, rfl, rfl, rfl, rfl, rfl, rfl, trivial⟩, hI, ?_⟩
   rcases hr with ⟨q1, q2⟩ | ⟨q1, x, ⟨z, rfl⟩, q2⟩
   ·injection q2 with q2; exact .inl ⟨q1, q2⟩
   injection q2 with q2; exact .inr ⟨q1, z, q2⟩
  clear hI
  rintro ρ w ⟨v7, hH, hI, hv⟩
  obtain ⟨σ, rfl⟩ := hH.open
  refine Wx (fun ρ w => ∃ v7, Has ρ [(7, v7), (21, .int .i64 (k : Int)), (20, .int .i64 (l.length : Int)), (19, .slice (some ⟨bA, oA, none⟩) l.length c), (4, .pointer (some ⟨b18, 0, none⟩)), (5, .int .i64 (k : Int))] ∧ ((stepE ⟨e0, e1, e2, e3, e4, e5, e6⟩ k s = none ∧ (∃ z : Int, v7 = .iface 45 (.int .i64 z)) ∧ Inv NF w0 w []) ∨ (∃ s', stepE ⟨e0, e1, e2, e3, e4, e5, e6⟩ k s = some s' ∧ v7 = .nilIface ∧ ∃ Ao co Ag cg, Inv NF w0 w (prtS b18 Ao co b15 b16 Ag cg s')))) ?_ ?_
  ·refine Wb ?_
   rcases hv with ⟨hv, rfl⟩ | ⟨hv, z, rfl⟩
   rotate_left
   ·refine Wq (Vy rfl (Tl rfl yy34 rfl (V8 rfl (Wn (Wc true rfl (Wk ?_))))))
    exact ⟨_, ⟨rfl, rfl, rfl, rfl, rfl, rfl, trivial⟩, .inl ⟨by unfold stepE; rw [hv]; rfl, ⟨z, rfl⟩, hI.non_⟩⟩
   refine Wq (T8 rfl (Te rfl yy34 rfl (V8 rfl (Wn (Wc false rfl ?_)))))
   replace hI : Inv NF w0 w (prtS b18 Ao co b15 b16 Ag cg s ++ [B b6 70 #[.int .i64 e0, .int .i64 e1, .int .i64 e2, .int .i64 e3, .int .i64 e4, .int .i64 e5, .int .i64 e6]]) := hI.perm (List.perm_append_comm (l₁ := [_]))
   by_cases t1 : e1 = 1
   ·have hse : stepE ⟨e0, e1, e2, e3, e4, e5, e6⟩ k s = beginF ⟨e0, e1, e2, e3, e4, e5, e6⟩ k s := by unfold stepE; rw [if_pos hv]; exact if_pos t1
    refine Wq (V7 1 rfl (V5 (.int .i64 _) rfl (hI.c5 rfl) (T5 rfl (V8 rfl (Wn (Wc true rfl (Wr (V9 rfl (Tu 7 rfl hI.g5 (V0 rfl (Va [.pointer _, .agg _, .int .i64 _] rfl func44 rfl ?_)))))))))))
    refine (begin_one e0 e1 e2 e3 e4 e5 e6 k b18 b15 b16 Ao co Ag cg s _ (by omega) hgl hI.from).mono ?_
    rintro e w1 hP
    rw [hse]
    unfold SeerPost at hP
    generalize beginF ⟨e0, e1, e2, e3, e4, e5, e6⟩ k s = r at hP ⊢
    obtain ⟨v, rfl, hQ⟩ : ∃ v, e = .returned v ∧ ((r = none ∧ (∃ z : Int, v = .iface 45 (.int .i64 z)) ∧ Inv NF w0 w1 []) ∨ ∃ s', r = some s' ∧ v = .nilIface ∧ ∃ Ao co Ag cg, Inv NF w0 w1 (prtS b18 Ao co b15 b16 Ag cg s')) := by
     cases r with
     | none => obtain ⟨q1, z, rfl⟩ := hP; exact ⟨_, rfl, .inl ⟨rfl, ⟨z, rfl⟩, (hI.turnL q1).non_⟩⟩
     | some s' => obtain ⟨rfl, A1, c1, A2, c2, q1⟩ := hP; exact ⟨_, rfl, .inr ⟨s', rfl, rfl, A1, c1, A2, c2, (hI.turnL q1).d5⟩⟩
    refine rV ?_
    refine Tn rfl (Wn ?_)
    exact ⟨_, ⟨rfl, rfl, rfl, rfl, rfl, rfl, trivial⟩, hQ⟩
   have hse : stepE ⟨e0, e1, e2, e3, e4, e5, e6⟩ k s = endF ⟨e0, e1, e2, e3, e4, e5, e6⟩ k s := by unfold stepE; rw [if_pos hv]; exact if_neg t1
   refine Wq (V7 1 rfl (V5 (.int .i64 _) rfl (hI.c5 rfl) (Vw rfl (V8 rfl (Wn (Wc false rfl (Wr (V9 rfl (Tu 7 rfl hI.g5 (V0 rfl (Va [.pointer _, .agg _, .int .i64 _] rfl func45 rfl ?_)))))))))))
   refine (end_one e0 e1 e2 e3 e4 e5 e6 k b18 b15 b16 Ao co Ag cg s _ (by omega) hgl hbl hI.from).mono ?_
   rintro e w1 hP
   rw [hse]
   unfold SeerPost at hP
   generalize endF ⟨e0, e1, e2, e3, e4, e5, e6⟩ k s = r at hP ⊢
   obtain ⟨v, rfl, hQ⟩ : ∃ v, e = .returned v ∧ ((r = none ∧ (∃ z : Int, v = .iface 45 (.int .i64 z)) ∧ Inv NF w0 w1 []) ∨ ∃ s', r = some s' ∧ v = .nilIface ∧ ∃ Ao co Ag cg, Inv NF w0 w1 (prtS b18 Ao co b15 b16 Ag cg s')) := by
    cases r with
    | none => obtain ⟨q1, z, rfl⟩ := hP; exact ⟨_, rfl, .inl ⟨rfl, ⟨z, rfl⟩, (hI.turnL q1).non_⟩⟩
    | some s' => obtain ⟨rfl, A1, c1, A2, c2, q1⟩ := hP; exact ⟨_, rfl, .inr ⟨s', rfl, rfl, A1, c1, A2, c2, (hI.turnL q1).d5⟩⟩
   refine rV ?_
   refine Tn rfl (Wn ?_)
   exact ⟨_, ⟨rfl, rfl, rfl, rfl, rfl, rfl, trivial⟩, hQ⟩
  clear hI hv
  rintro ρ w ⟨v7, hH, hP⟩
  obtain ⟨σ, rfl⟩ := hH.open
  rcases hP with ⟨hs, ⟨z, rfl⟩, hI⟩ | ⟨s', hs, rfl, Ao', co', Ag', cg', hI⟩
  ·refine Wq (Vy rfl (Tl rfl yy34 rfl (Wn (Wc true rfl (Wq (Vy rfl (V0 rfl (Va [_, .int .i64 _] rfl func46 rfl ?_))))))))
   refine (at_any z k _ (hI.oldp hg)).mono ?_
   rintro e w1 ⟨⟨b, rfl⟩, hp⟩
   refine rV ?_
   have hI := hI.pure hp
   refine Vo rfl (Vp rfl (Wn ?_))
   exact WR (r2_ 2 3 rfl (EvPost.no (by rw [hev, hs]; rfl) hI.pu))
  rw [hs] at hev
  have hok' := hstep s' hs
  have hl' : s'.ops.length ≤ k + 1 := by
   have := stepE_len hs
   omega
  refine Wq (T8 rfl (Te rfl yy34 rfl (Wn (Wc false rfl (Wk (Wr (Vv rfl (V0 rfl (Wn ?_)))))))))
  exact ⟨l.length - (k + 1), by omega, k + 1, s', Ao', co', Ag', cg', rfl, by omega, hev, hok', hl', ⟨rfl, rfl, rfl, rfl, trivial⟩, hI⟩
 clear hI hev
 rintro ρ w ⟨s, Ao, co, Ag, cg, hev, hok, hsl, hH, hI⟩
 obtain ⟨σ, rfl⟩ := hH.open
 refine Wq (Vo rfl (Wn ?_))
 refine Wx (fun ρ w => ∃ (A8 : Option Addr) (c8 : Nat), Has ρ [(8, .slice A8 (outF s).length c8)] ∧ Inv NF w0 w [OpsE A8 c8 (outF s)]) ?_ ?_
 ·replace hI : Inv NF w0 w (OpsE none 0 ((keptF s 0).map (oAt s.ops)) :: prtS b18 Ao co b15 b16 Ag cg s) := hI.fresh (Pure.refl w) (Row.nil w 0 120 8) (fun k hk => by cases hk)
  refine Wq (V9 rfl (Vb rfl (V7 0 rfl (V5 (.slice _ _ _) rfl (hI.c1 rfl) (Vs rfl yy62 rfl (V0 rfl (Wn (Wb ?_))))))))
  refine Wl (fun mu ρ w => ∃ (k : Nat) (A8 : Option Addr) (c8 : Nat), mu = s.ops.length - k ∧ k ≤ s.ops.length ∧ Has ρ [(54, .int .i64 (k : Int)), (53, .int .i64 (s.ops.length : Int)), (52, .slice Ao s.ops.length co), (4, .pointer (some ⟨b18, 0, none⟩)), (8, .slice A8 ((keptF s k).map (oAt s.ops)).length c8)] ∧ Inv NF w0 w (OpsE A8 c8 ((keptF s k).map (oAt s.ops)) :: prtS b18 Ao co b15 b16 Ag cg s)) s.ops.length
   ⟨0, _, _, rfl, by omega, ⟨rfl, rfl, rfl, rfl, rfl, trivial⟩, hI⟩ ?_
  clear hI
  rintro mu ρ w ⟨k, A8, c8, rfl, hk, hH, hI⟩
  obtain ⟨σ, rfl⟩ := hH.open
  by_cases hkl : k < s.ops.length
  rotate_left
  ·obtain rfl : k = s.ops.length := by omega
   refine Wq (Vr rfl (Wn (Ws (Wc false rfl ?_))))
   refine WE ?_
   refine ⟨A8, c8, ⟨rfl, trivial⟩, hI.d5.d4.d3.d2.d1⟩
  have hglen := hok.glen
  obtain ⟨bO, _, rfl, -, -, -, -, -, -⟩ := row_openB hI.g2 (by omega)
  obtain ⟨bG, _, rfl, -, -, -, -, -, -⟩ := row_openB hI.g3 (by omega)
  have hkc : ((keptF s k).map (oAt s.ops)).length ≤ 120 := by
   have : (keptF s k).length ≤ (List.range k).length := List.length_filter_le ..
   simp at this ⊢
   omega
  have hgc : (s.gone.map Value.bool)[k]? = some (.bool (goneAt s k)) := by
   unfold goneAt
   rw [List.getElem?_map, List.getD_eq_getElem?_getD, List.getElem?_eq_getElem (show k < s.gone.length by omega)]
   rfl
  have hoc : ∀ (j : Nat) (u : Value), (opV (oAt s.ops k))[j]? = some u → w.cell? ⟨bO, 0 + k * 8 + j, none⟩ = some u := fun j u hj => row_op hI.g2 rfl hkl hj
  refine Wq (Vt rfl (Wn (Ws (Wc true rfl (Wk (Ws (Wb (Wq (V0 rfl (Tt 8 rfl yy62 rfl (Uo 8 rfl (by rfl) hoc ?_)))))))))))
  refine T1 (.agg zI8) (zI8) hI rfl ?_
  rintro b10 w - - hI
  refine Vc rfl (T7 8 (#[_, _, _, _, _, _, _, _]) (.agg _) hI rfl ?_)
  intro w hI
  refine Wn ?_
  have hks := keptF_succ s k
  change keptF s (k + 1) = keptF s k ++ (if goneAt s k = true then [] else [k]) at hks
  cases hg1 : goneAt s k with
  | true =>
   rw [hg1] at hgc hks
   refine Wq (V9 rfl (Vb rfl (V7 3 rfl (V5 (.slice _ _ _) rfl (hI.c2 rfl) (V0 rfl (Tp rfl yy113 rfl (V5 (.bool _) rfl (row_cell1 hI.g4 hgc) (T9 rfl (Wn (Wc false rfl (Wk ?_)))))))))))
   have hI := hI.d0
   refine Wr (Vv rfl (V0 rfl (Wn ?_)))
   refine ⟨s.ops.length - (k + 1), by omega, k + 1, A8, c8, rfl, by omega, ?_, ?_⟩
   ·rw [hks]; simp only [if_true, List.append_nil]; exact ⟨rfl, rfl, rfl, rfl, rfl, trivial⟩
   rw [hks]; simp only [if_true, List.append_nil]; exact hI
  | false =>
   rw [hg1] at hgc hks
   refine Wq (V9 rfl (Vb rfl (V7 3 rfl (V5 (.slice _ _ _) rfl (hI.c2 rfl) (V0 rfl (Tp rfl yy113 rfl (V5 (.bool _) rfl (row_cell1 hI.g4 hgc) (Ti rfl (Wn (Wc true rfl (Wr (Vi rfl ?_))))))))))))
   refine Tu 8 rfl hI.g0 (T3 [(0, .agg #[_, _, _, _, _, _, _, _])] [_, _, _, _, _, _, _, _] [.int .i64 0, .int .i64 0, .int .i64 0, .int .i64 0, .int .i64 0, .int .i64 0, .int .i64 0, .int .i64 0] [0] hI rfl yy62 (fun _ => by kernel_rfl) ?_)
   rintro b69 w - - hI
   refine WL_app2 (z := .agg zI8) (by_ := 64) hI rfl rfl rfl rfl rfl rfl yy62 (by kernel_rfl) rfl (by omega) (by rfl) hI.lit0 (by rfl) (by omega) (by omega) (by exact Nat.zero_le _) ?_
   rintro A70 c70 w hA70 hc70 hI
   have hI := hI.d0
   refine Vo rfl (Wn ?_)
   replace hI : Inv NF w0 w (Row 0 120 8 A70 (((keptF s k).map (oAt s.ops)).length + 1) c70 (((keptF s k).map (oAt s.ops)).flatMap opV ++ opV (oAt s.ops k)) :: prtS b18 (some ⟨bO, 0, none⟩) co b15 b16 (some ⟨bG, 0, none⟩) cg s) := hI.d0
   have hks : (keptF s (k + 1)).map (oAt s.ops) = (keptF s k).map (oAt s.ops) ++ [oAt s.ops k] := by rw [hks]; simp
   refine Wr (Vv rfl (V0 rfl (Wn ?_)))
   refine ⟨s.ops.length - (k + 1), by omega, k + 1, A70, c70, rfl, by omega, ?_, ?_⟩
   ·rw [hks, List.length_append]; exact ⟨rfl, rfl, rfl, rfl, rfl, trivial⟩
   rw [hks]
   unfold OpsE
   rw [List.length_append, List.flatMap_append, List.flatMap_cons, List.flatMap_nil, List.append_nil]
   exact hI
 clear hI
 rintro ρ w ⟨A8, c8, hH, hI⟩
 obtain ⟨σ, rfl⟩ := hH.open
 refine Wq (Vi rfl (Vo rfl (Vj rfl (Wn ?_))))
 exact WR (r2_ 2 3 rfl (EvPost.yes hev hI))
structure TxG (w : World) : Prop where
 num : NumG w
 err : GlobOk w
 spc : Lib.TabIs prog w "strings.asciiSpace" .u8 Lib.asciiSpaceTab
theorem gspcN : prog.globalNamed "strings.asciiSpace" = some 0 := by kernel_rfl
theorem TxG.pure {w w' : World} (h : TxG w) (hp : Pure w w') : TxG w' :=
 ⟨h.num.chg (hp.chg NF) NoG.none, ((Inv.start (fun _ => False) w).pure hp).oldp h.err, var_keep gspcN (hp.chg NF) id h.spc⟩
theorem fields_any (l : List UInt8) (ws : List (List UInt8)) (hf : Lib.fields l = ws) (hl : l.length ≤ 1000) (ha : ∀ (j : Nat) b, l[j]? = some b → b.toNat < 128) (w : World) (hG : TxG w) :
  Cq 26 #[strV l] w fun e w' => ∃ g, e = .returned (.slice (some ⟨g, 0, none⟩) ws.length ws.length) ∧ Inv NF w w' [B g 9 (ws.map strV).toArray] := by
 have hs : (⟨l.toArray⟩ : ByteArray).size = l.length := str_size l
 refine (Any.strings_Fields_laid laysM157 ⟨l.toArray⟩ w (by omega) ha hG.spc).mono ?_
 rintro e w' ⟨rfl, rfl⟩
 rw [str_list, hf]
 exact ⟨_, rfl, (Inv.start (fun _ => False) w).box _ _⟩
theorem extra156 : Builder.Extra prog Tryz.lays156_ren := ⟨⟨by kernel_rfl, by kernel_rfl⟩, yy5, isAgg5, sizeOf5, zeroValue5, by kernel_rfl, by kernel_rfl, by kernel_rfl, by decide⟩
theorem extra166 : Builder.Extra prog Tryz.lays166_ren := ⟨⟨by kernel_rfl, by kernel_rfl⟩, yy5, isAgg5, sizeOf5, zeroValue5, by kernel_rfl, by kernel_rfl, by kernel_rfl, by decide⟩
theorem extra169 : Builder.Extra prog Tryz.lays169_ren := ⟨⟨by kernel_rfl, by kernel_rfl⟩, yy5, isAgg5, sizeOf5, zeroValue5, by kernel_rfl, by kernel_rfl, by kernel_rfl, by decide⟩
theorem join_any (bk o c : Nat) (xs : List (List UInt8)) (w : World) (hc : ∀ (j : Nat) x, xs[j]? = some x → w.cell? ⟨bk, o + j, none⟩ = some (strV x)) (hbk : bk < w.heap.size) (hN : xs.length ≤ 1000) (hcap : xs.length ≤ c)
  (hlen : (Lib.join xs [32]).length ≤ 100000) : Cq 27 #[.slice (some ⟨bk, o, none⟩) xs.length c, strV [32]] w fun e w' => e = .returned (strV (Lib.join xs [32])) ∧ Pure w w' := by
 have e1 : (xs.map (fun (x : List UInt8) => (⟨x.toArray⟩ : ByteArray))).map (·.data.toList) = xs := by rw [List.map_map]; exact List.map_id xs
 have := Any.strings_Join lays156 extra156 bk o c (xs.map fun x => ⟨x.toArray⟩) ⟨#[32]⟩ w (fun j x hx => by
  rw [List.getElem?_map] at hx
  cases h : xs[j]? with
  | none => rw [h] at hx; cases hx
  | some y =>
   rw [h] at hx
   injection hx with hx
   subst hx
   exact hc j y h) hbk (by rw [List.length_map]; omega) (by rw [List.length_map]; exact hcap) (by rw [e1]; show (Lib.join xs [32]).length ≤ _; omega)
 rw [List.length_map, e1] at this
 exact this
theorem inv_rowOf {S : Nat → Prop} {w0 w : World} {H : List Ent} {g e : Nat} {cs : Array Value} (hI : Inv S w0 w (B g e cs :: H)) (n : Nat) (hn : cs.size = n) (hm : n ≤ 1000000) : Inv S w0 w (Row 0 e 1 (some ⟨g, 0, none⟩) n n cs.toList :: H) :=
 hI.u0 (e' := Row 0 e 1 (some ⟨g, 0, none⟩) n n cs.toList) (Chg.refl _ _) (Row.of_blk hI.g0 (Nat.zero_le _) (by omega) (by omega)) (fun k hk => .inl (by have : some g = some k := hk; injection this with this; exact this.symm))
abbrev IsB (B b : Nat) (l : List UInt8) (w : World) : Prop := Lib.IsBuilderF 135 5 B b (Lib.byteCells l) w
theorem BuilderAtF.pure' {T e : TypeId} {B b : Nat} {p : Value} {bs : List Value} {w w' : World} (h : Lib.BuilderAtF T e B b p bs w) (hp : Pure w w') : Lib.BuilderAtF T e B b p bs w' := by
 obtain ⟨hB, v, hb, ⟨h1, h2⟩, hne⟩ := h
 have hk : ∀ {k : Nat} {o : Obj}, w.heap[k]? = some o → w'.heap[k]? = some o := fun {k o} h => (hp.block k (Array.getElem?_eq_some_iff.1 h).1).trans h
 refine ⟨hB, v, hk hb, ⟨h1, ?_⟩, hne⟩
 rcases h2 with h2 | ⟨g, cap, cur, fz, q1, q2, q3, q4, q5, q6, q7, q8⟩
 ·exact .inl h2
 exact .inr ⟨g, cap, cur, fz, q1, q2, hk q3, q4, q5, q6, q7, q8⟩
theorem IsB.pure {B b : Nat} {l : List UInt8} {w w' : World} (h : IsB B b l w) (hp : Pure w w') : IsB B b l w' := h.elim (fun x => .inl (BuilderAtF.pure' x hp)) (fun x => .inr (BuilderAtF.pure' x hp))
theorem IsB.of_blk {w : World} {B b : Nat} (h : Blk w b 135 #[.pointer none, .slice none 0 0]) (hB : B ≤ b) : IsB B b [] w := .inl ⟨hB, _, h, World.ownsRowF_nil _ _ _ _, by simp [Value.ownBlock]⟩
theorem wrs_any (B b : Nat) (l s : List UInt8) (w : World) (h : IsB B b l w) (hlen : l.length + s.length ≤ 1000000) (hB : B ≤ w.heap.size) :
  Cq 54 #[.pointer (some ⟨b, 0, none⟩), strV s] w fun e w' => (∃ v, e = .returned v) ∧ IsB B b (l ++ s) w' ∧ Below B w w' := by
 have hs : (⟨s.toArray⟩ : ByteArray).size = s.length := str_size s
 refine (Any.Builder_WriteString_k lays166 extra166 B b _ ⟨s.toArray⟩ w h (by rw [Lib.byteCells_length]; omega) hB).mono ?_
 rintro e w' ⟨rfl, h1, h2, -⟩
 refine ⟨⟨_, rfl⟩, .inr ?_, h2⟩
 rw [Lib.byteCells_append]
 rw [Lib.strCells_eq] at h1
 exact h1
theorem bstr_any (B b : Nat) (l : List UInt8) (w : World) (h : IsB B b l w) (hB : B ≤ w.heap.size) :
  Cq 55 #[.pointer (some ⟨b, 0, none⟩)] w fun e w' => e = .returned (strV l) ∧ Below B w w' := by
 refine (Any.Builder_String_any_k lays169 extra169 B b l w h hB).mono ?_
 rintro e w' ⟨rfl, _, h2, -⟩
 exact ⟨rfl, h2⟩
theorem index_any (l : List UInt8) (ws : List (List UInt8)) (m : Nat) (wd : List UInt8) (hf : Lib.fields l = ws) (hl : l.length ≤ 1000) (ha : ∀ (j : Nat) b, l[j]? = some b → b.toNat < 128) (hm : ws[m]? = some wd) (hnd : ws.Nodup) (hws : ws.length ≤ 1000) (w0 : World) (hG : TxG w0) :
  Cq 165 #[strV l, strV wd] w0 fun e w' => e = .returned (.int .i64 (m : Int)) ∧ Pure w0 w' := by
 have hI := Inv.start (fun _ => False) w0
 have hmw := (List.getElem?_eq_some_iff.1 hm).1
 refine Vn func165 rfl ?_
 refine Wq (Vc rfl (Wn (Ws (Wq (Vh rfl (Va [.string _] rfl func26 rfl ?_))))))
 refine (fields_any l ws hf hl ha _ (hG.pure hI.pu)).mono ?_
 rintro e w1 ⟨g1, rfl, hT⟩
 refine rV ?_
 have hI := hI.app1 hT
 refine Vs rfl yy72 rfl (V0 rfl (Wn (Wb ?_)))
 refine Wl (fun mu ρ w => ∃ k : Nat, mu = ws.length - k ∧ k ≤ m ∧ Has ρ [(10, .int .i64 (k : Int)), (9, .int .i64 (ws.length : Int)), (8, .slice (some ⟨g1, 0, none⟩) ws.length ws.length), (1, strV wd)] ∧ Inv NF w0 w [B g1 9 (ws.map strV).toArray]) ws.length
  ⟨0, rfl, by omega, ⟨rfl, rfl, rfl, rfl, trivial⟩, hI⟩ ?_
 clear hI
 rintro mu ρ w ⟨k, rfl, hk, hH, hI⟩
 obtain ⟨σ, rfl⟩ := hH.open
 have hkl : k < ws.length := by omega
 have hks : (ws.map strV).toArray[k]? = some (strV ws[k]) := by
  rw [List.getElem?_toArray, List.getElem?_map, List.getElem?_eq_getElem hkl]; rfl
 have hkm : ws[k] = wd ↔ k = m := by
  have h1 : ws[m] = wd := by rw [List.getElem?_eq_getElem hmw] at hm; exact Option.some.inj hm
  constructor
  ·intro h
   have hp := List.pairwise_iff_getElem.1 hnd
   rcases Nat.lt_trichotomy k m with h2 | h2 | h2
   ·exact absurd (h.trans h1.symm) (hp k m hkl hmw h2)
   ·exact h2
   exact absurd (h1.trans h.symm) (hp m k hmw hkl h2)
  rintro rfl; exact h1
 generalize ws[k] = wk at hks hkm
 refine Wq (Vt rfl (Wn (Ws (Wc true rfl (Wk (Ws (Wb (Wq (V0 rfl (Tp rfl yy72 rfl (V5 (.string _) rfl (hI.c0 hks) ?_)))))))))))
 refine Vc rfl (T4 rfl (Wn ?_))
 by_cases hkm' : k = m
 ·have hwe : wk = wd := hkm.2 hkm'
  subst hkm'
  refine Wq (Vh rfl (Vh rfl ?_))
  refine Wv rfl (by exact rStrEqT rfl rfl rfl (by assumption)) ?_
  refine Wn (Wc true rfl (Wq (V0 rfl (Vc rfl (Wn ?_)))))
  exact WR (r1_ 4 rfl ⟨rfl, hI.pu⟩)
 have hne : wk ≠ wd := fun h => hkm' (hkm.1 h)
 refine Wq (Vh rfl (Vh rfl (U3 rfl ?_)))
 refine Wn (Wc false rfl (Wk (Wr (Vv rfl (V0 rfl (Wn ?_))))))
 exact ⟨ws.length - (k + 1), by omega, k + 1, rfl, by omega, ⟨rfl, rfl, rfl, rfl, trivial⟩, hI⟩
theorem rPtrEqN {P : Program} {ρ : Env} {o : Oper} {w : World} {x y : Operand} {t t' el : Nat} (ho : o.op = .binOp .eql t x y t') (ht : P.underlying t = some (.pointer el)) (hx : ev ρ x = .pointer none) (hy : ev ρ y = .pointer none) : Runs P ρ o w (.bool true) := by
 have h := run_equal (P := P) (w := w) (t := t) (x := .pointer none) (y := .pointer none) (r := true) (fun d => by simp [Op.equalIn, run_underlying ht])
 simp [Runs, execOp, ho, hx, hy, eqGuard, binOp, h]
def evP (e : Ev) (k : Nat) : Array Value := #[.int .i64 (if 0 < k then e.proc else 0), .int .i64 0, .int .i64 (if 3 < k then e.key else 0), .int .i64 0, .int .i64 (if 4 < k then e.a else 0), .int .i64 (if 5 < k then e.b else 0), .int .i64 (if 6 < k then e.res else 0)]
def ptrsP (b : Nat) : Array Value := #[.pointer (some ⟨b, 0, none⟩), .pointer none, .pointer none, .pointer (some ⟨b, 2, none⟩), .pointer (some ⟨b, 4, none⟩), .pointer (some ⟨b, 5, none⟩), .pointer (some ⟨b, 6, none⟩)]
theorem parse_step (e : Ev) (he : EvOk e) (b k : Nat) (hk : k < 7) : ((ptrsP b)[k]? = some (.pointer none) ∧ evP e (k + 1) = evP e k) ∨
  ∃ (f : Nat) (z : Int), (ptrsP b)[k]? = some (.pointer (some ⟨b, f, none⟩)) ∧ f < 7 ∧ (wordsE e)[k]? = some (Lib.itoa z) ∧ (-1000000 ≤ z ∧ z ≤ 1000000) ∧ (evP e k).setIfInBounds f (.int .i64 z) = evP e (k + 1) := by
 have hp := he.p
 have hy := he.k
 match k, hk with
 | 0, _ => exact .inr ⟨0, e.proc, rfl, by omega, rfl, by omega, rfl⟩
 | 1, _ => exact .inl ⟨rfl, rfl⟩
 | 2, _ => exact .inl ⟨rfl, rfl⟩
 | 3, _ => exact .inr ⟨2, e.key, rfl, by omega, rfl, by omega, rfl⟩
 | 4, _ => exact .inr ⟨4, e.a, rfl, by omega, rfl, he.a, rfl⟩
 | 5, _ => exact .inr ⟨5, e.b, rfl, by omega, rfl, he.b, rfl⟩
 | 6, _ => exact .inr ⟨6, e.res, rfl, by omega, rfl, he.r, rfl⟩
theorem evparse_any (e : Ev) (hev : evOkB e = true) (A : Option Addr) (c : Nat) (D : Nat → Prop) (w0 : World) (h : Rd w0 D 1 (.slice A 7 c) 7 ((wordsE e).map strV)) (hG : TxG w0) :
  Cq 111 #[.slice A 7 c] w0 fun en w' => en = .returned (.tuple #[.agg (evL e).toArray, .nilIface]) ∧ Pure w0 w' := by
 have he := EvOk.of hev
 obtain ⟨bA, oA, rfl, hcw, hc7⟩ : ∃ bA oA, A = some ⟨bA, oA, none⟩ ∧ (∀ k x, (wordsE e)[k]? = some x → w0.cell? ⟨bA, oA + k, none⟩ = some (strV x)) ∧ 7 ≤ c ∧ c ≤ 9223372036854775807 := by
  obtain ⟨A', c', hv, h1, h2, h3, h4⟩ := h
  injection hv with ha _ hcc
  subst ha hcc
  obtain ⟨b, o, rfl, _, hc⟩ := h4 (by omega)
  exact ⟨b, o, rfl, fun k x hx => hc k _ (by rw [List.getElem?_map, hx]; rfl), h1, h2⟩
 clear h
 have hI := Inv.start (fun _ => False) w0
 refine Vn func111 rfl ?_
 refine Wq (T1 (.agg zI7) (zI7) hI rfl ?_)
 rintro b2 w - - hI
 refine Vj rfl (Wn (Ws (Wq (Vi rfl (Vs rfl yy72 rfl (U2 rfl (Wn (Wc false rfl (Wk (Wq (T1 (.agg zI7) (zI7) hI rfl ?_)))))))))))
 rintro b4 w - - hI
 refine Wn ?_
 refine Wx (fun ρ w => Has ρ [(0, .slice (some ⟨bA, oA, none⟩) 7 c), (4, .pointer (some ⟨b4, 0, none⟩)), (2, .pointer (some ⟨b2, 0, none⟩))] ∧ Inv NF w0 w [B b4 70 (evP e 7), B b2 70 zI7]) ?_ ?_
 ·refine Wq (V7 0 rfl (V7 2 rfl (V7 4 rfl (V7 5 rfl (V7 6 rfl (T3 [(0, .pointer _), (1, .pointer _), (2, .pointer _), (3, .pointer _), (4, .pointer _), (5, .pointer _), (6, .pointer _)] [_, _, _, _, _, _, _] [.pointer none, .pointer none, .pointer none, .pointer none, .pointer none, .pointer none, .pointer none] [0, 1, 2, 3, 4, 5, 6] hI rfl yy257 (fun _ => by kernel_rfl) ?_))))))
  rintro b21 w - - hI
  refine Vs rfl yy257 rfl (V0 rfl (Wn (Wb ?_)))
  refine Wl (fun mu ρ w => ∃ k : Nat, mu = 7 - k ∧ k ≤ 7 ∧ Has ρ [(23, .int .i64 (k : Int)), (22, .int .i64 7), (21, .slice (some ⟨b21, 0, none⟩) 7 7), (0, .slice (some ⟨bA, oA, none⟩) 7 c), (4, .pointer (some ⟨b4, 0, none⟩)), (2, .pointer (some ⟨b2, 0, none⟩))] ∧ Inv NF w0 w [B b21 216 (ptrsP b4), B b4 70 (evP e k), B b2 70 zI7]) 7
   ⟨0, rfl, by omega, ⟨rfl, rfl, rfl, rfl, rfl, rfl, trivial⟩, hI⟩ ?_
  clear hI
  rintro mu ρ w ⟨k, rfl, hk, hH, hI⟩
  obtain ⟨σ, rfl⟩ := hH.open
  by_cases hk7 : k < 7
  rotate_left
  ·obtain rfl : k = 7 := by omega
   refine Wq (Vr rfl (Wn (Ws (Wc false rfl ?_))))
   refine WE ?_
   exact ⟨⟨rfl, rfl, rfl, trivial⟩, hI.d0⟩
  refine Wq (Vt rfl (Wn (Ws (Wc true rfl (Wk (Ws (Wb ?_)))))))
  rcases parse_step e he b4 k hk7 with ⟨hpk, hnx⟩ | ⟨f, z, hpk, hf, hw, hz, hnx⟩
  ·refine Wq (V0 rfl (Tp rfl yy257 rfl (V5 (.pointer _) rfl (hI.c0 hpk) (Vc rfl (Tm rfl (Wn (Ws (Wq (V9 rfl ?_)))))))))
   refine Wv rfl (rPtrEqN rfl underlying216 rfl rfl) ?_
   refine Wn (Wc true rfl ?_)
   refine WE ?_
   refine Wr (Vv rfl (V0 rfl (Wn ?_)))
   exact ⟨7 - (k + 1), by omega, k + 1, rfl, by omega, ⟨rfl, rfl, rfl, rfl, rfl, rfl, trivial⟩, by rw [hnx]; exact hI⟩
  have hck := hcw k _ hw
  refine Wq (V0 rfl (Tp rfl yy257 rfl (V5 (.pointer _) rfl (hI.c0 hpk) (Vc rfl (Tm rfl (Wn (Ws (Wq (V9 rfl ?_)))))))))
  refine Wv rfl (rPtrEq rfl underlying216 rfl rfl) ?_
  refine Wn (Wc false rfl (Wk (Wq (Vi rfl (V0 rfl (U8 rfl yy72 rfl (V5 (.string _) rfl (hI.oldp hck) (Va [.string _] rfl func66 rfl ?_))))))))
  refine (atoi_any (Lib.itoa z) ?_ _ (hG.pure hI.pu).num).mono ?_
  ·have := itoaT_len hz.1 hz.2; omega
  unfold atoiPost
  rw [atoi_itoa (by omega) (by omega)]
  rintro e w1 ⟨⟨rfl, -⟩, hp1⟩
  refine rV ?_
  have hI := hI.pure hp1
  refine Vz rfl (Vg rfl (Vg rfl (Vc rfl (Vj rfl (Wn (Ws (Ws (Wd (by kernel_rfl) ?_))))))))
  refine Wi (T := []) hI.drew ?_
  intro Sx hY hZ
  have hI := hI.drew
  refine Wt 0 rfl (fun W hW => have hI := hY W hW; (by exact rMoveN rfl rfl)) ?_
  refine Wt 1 rfl (fun W hW => have hI := hY W hW; (by exact rNilNe rfl yy34 rfl)) ?_
  refine Tg 2 rfl (Vx 3 rfl (Ta 5 rfl (Vx 6 rfl ?_)))
  refine Wt 7 rfl (fun W hW => have hI := hY W hW; (by exact rIdx1 rfl yy72 (by kernel_rfl) rfl rfl (by omega))) ?_
  refine Vd 8 (.string _) rfl (fun W hW => (hY W hW).oldp hck) (Vu 4 rfl ?_)
  refine Va [.int .i64 _] rfl func22 rfl ?_
  refine (itoa_any z (by omega) (by omega) _ (hG.pure hI.pu).num).mono (okP hI fun w1 hp1 hI => ?_)
  refine Wn ⟨hZ _ hI, ?_⟩
  refine Wt 9 rfl (fun W hW => have hI := hY W hW; (rStrNeF rfl rfl rfl rfl)) ?_
  refine Tw 10 rfl (We (by kernel_rfl) (Wc false rfl (Wk (Wr (V9 rfl (V0 rfl (Vb rfl ?_)))))))
  refine WL_st1 (u := .int .i64 z) hI rfl rfl rfl rfl rfl rfl (by kernel_rfl) rfl (by show Nat.blt f 7 = true; rw [Nat.blt_eq]; exact hf) hnx ?_
  rintro w hI
  refine Wn (Wr (Vv rfl (V0 rfl (Wn ?_))))
  exact ⟨7 - (k + 1), by omega, k + 1, rfl, by omega, ⟨rfl, rfl, rfl, rfl, rfl, rfl, trivial⟩, hI⟩
 clear hI
 rintro ρ w ⟨hH, hI⟩
 obtain ⟨σ, rfl⟩ := hH.open
 obtain ⟨p, ty, ky, kd, ea, eb, r⟩ := e
 have ht : 1 ≤ ty ∧ ty ≤ 4 := he.t
 have hd : 1 ≤ kd ∧ kd ≤ 12 := he.kd
 obtain ⟨t, ht'⟩ : ∃ t : Nat, ty = 1 + (t : Int) := ⟨(ty - 1).toNat, by omega⟩
 obtain ⟨d, hd'⟩ : ∃ d : Nat, kd = 1 + (d : Int) := ⟨(kd - 1).toNat, by omega⟩
 subst ht' hd'
 have hty := he.tyAt
 have hkd := he.kdAt
 rw [show ((⟨p, 1 + (t : Int), ky, 1 + (d : Int), ea, eb, r⟩ : Ev).ty - 1).toNat = t by show (1 + (t : Int) - 1).toNat = t; omega] at hty
 rw [show ((⟨p, 1 + (t : Int), ky, 1 + (d : Int), ea, eb, r⟩ : Ev).kind - 1).toNat = d by show (1 + (d : Int) - 1).toNat = d; omega] at hkd
 have hc1 := hcw 1 _ rfl
 have hc2 := hcw 2 _ rfl
 refine Ws (Wd (by kernel_rfl) ?_)
 refine Wi (T := []) hI.drew ?_
 intro Sx hY hZ
 have hI := hI.drew
 refine Ta 0 rfl ?_
 refine Wt 1 rfl (fun W hW => have hI := hY W hW; (by exact rIdx1 (i := 1) rfl yy72 (by kernel_rfl) rfl rfl (by omega))) ?_
 refine Vd 2 (.string _) rfl (fun W hW => (hY W hW).oldp hc1) (Ta 4 rfl ?_)
 refine Wt 5 rfl (fun W hW => have hI := hY W hW; (by exact rIdx1 (i := 2) rfl yy72 (by kernel_rfl) rfl rfl (by omega))) ?_
 refine Vd 6 (.string _) rfl (fun W hW => (hY W hW).oldp hc2) (Vu 3 rfl ?_)
 refine Va [.string _, .string _] rfl func165 rfl ?_
 refine (index_any typeS typeWs t _ fields_typeS (by decide) typeS_ascii hty typeWs_nd (by decide) _ (hG.pure hI.pu)).mono (okP hI fun w1 hp1 hI => ?_)
 refine Wn ⟨hZ _ hI, ?_⟩
 refine Vu 7 rfl ?_
 refine Va [.string _, .string _] rfl func165 rfl ?_
 refine (index_any kindS kindWs d _ fields_kindS (by decide) kindS_ascii hkd kindWs_nd (by decide) _ (hG.pure hI.pu)).mono (okP hI fun w1 hp1 hI => ?_)
 refine Wn ⟨hZ _ hI, ?_⟩
 refine Ty 8 rfl (Ty 9 rfl (We (by kernel_rfl) (Ws (Wq (V0 rfl (Vr rfl (V6 rfl (V0 rfl (Vr rfl (Ve rfl (Wn (Wc false rfl ?_))))))))))))
 refine Wk ?_
 replace hI : Inv NF w0 _ [B b4 70 #[.int .i64 p, .int .i64 0, .int .i64 ky, .int .i64 0, .int .i64 ea, .int .i64 eb, .int .i64 r], B b2 70 zI7] := hI
 refine Wq (V0 rfl (Ud rfl (V0 rfl (Ud rfl (V7 1 rfl (Ue (.int .i64 _) hI rfl ?_))))))
 intro w hI
 refine V7 3 rfl (Ue (.int .i64 _) hI rfl ?_)
 intro w hI
 refine Wn (Ws (Wd (by kernel_rfl) ?_))
 refine Wi (T := []) hI.d1.drew ?_
 intro Sx hY hZ
 have hI := hI.drew
 refine Ut 0 7 rfl (fun W hW => (hY W hW).g0) (Ut 1 7 rfl (fun W hW => (hY W hW).g0) (Vu 2 rfl ?_))
 refine Va [.agg _] rfl func43 rfl ?_
 refine (check_any ⟨p, 1 + (t : Int), ky, 1 + (d : Int), ea, eb, r⟩ _).mono ?_
 rintro e w1 ⟨hp1, ⟨_, rfl⟩ | ⟨hr, _⟩⟩
 rotate_left
 ·rw [hev] at hr; cases hr
 refine rV ?_
 have hI := hI.pure hp1
 refine Wn ⟨hZ _ hI.d1, ?_⟩
 refine Vu 3 rfl ?_
 refine WL_stw1 (u := .agg _) (vs := #[_, _, _, _, _, _, _]) (n := 7) hI rfl rfl rfl rfl rfl rfl (by kernel_rfl) rfl rfl rfl ?_
 intro w hI
 refine Wn ⟨hZ _ hI.d1, ?_⟩
 refine Wt 4 rfl (fun W hW => have hI := hY W hW; (by exact rAsgnN rfl rfl)) ?_
 refine We (by kernel_rfl) ?_
 refine WR ?_
 exact retC2 (n := 7) (t := 70) (.inr rfl) rfl rfl (by kernel_rfl) (by kernel_rfl) rfl hI.g1 ⟨rfl, hI.pu⟩
def tnC (v : List UInt8) (p : Int) (pre : List UInt8) (nx : Option Addr) (tb : Value) : Array Value := #[strV v, .int .i64 p, strV pre, .pointer nx, tb]
abbrev nilT : Value := .slice none 0 0
section
variable {S : Nat → Prop} {w0 w : World} {H : List Ent}
theorem add_nil (n R : Nat) (pre val : List UInt8) (nx : Option Addr) (tb : Value) (p : Int) (hI : Inv S w0 w (B n 349 (tnC [] 0 pre nx tb) :: H)) :
  Cq 192 #[at0 n, strV [], strV val, .int .i64 p, at0 R] w fun e w' => e = .returned (.tuple #[]) ∧ Inv S w0 w' (B n 349 (tnC val p pre nx tb) :: H) := by
 refine Vn func192 rfl ?_
 refine Ws (Wq (Vh rfl (Uj rfl (Wn (Wc true rfl (Ws (Wq (V9 rfl (Vb rfl (V7 1 rfl (V5 (.int .i64 _) rfl (hI.c0 rfl) ?_)))))))))))
 refine T5 rfl (Wn (Wc true rfl (Wq (V9 rfl (Vh rfl (Vb rfl (V7 0 rfl (Ue (.string _) hI rfl ?_))))))))
 intro w hI
 refine Wn (Wr (V9 rfl (V0 rfl (Vb rfl (V7 1 rfl (Ue (.int .i64 _) hI rfl ?_))))))
 intro w hI
 refine Wn ?_
 refine WR ?_
 exact ret0 (.inr rfl) rfl ⟨rfl, hI⟩
theorem add_empty (n R : Nat) (c : UInt8) (r val : List UInt8) (p : Int) (hI : Inv S w0 w (B n 349 (tnC [] 0 [] none nilT) :: H)) :
  Cq 192 #[at0 n, strV (c :: r), strV val, .int .i64 p, at0 R] w fun e w' => e = .returned (.tuple #[]) ∧ ∃ m, Inv S w0 w' (B m 349 (tnC val p [] none nilT) :: B n 349 (tnC [] 0 (c :: r) (some ⟨m, 0, none⟩) nilT) :: H) := by
 refine Vn func192 rfl ?_
 refine Ws (Wq (Vh rfl ?_))
 refine Wv rfl (by exact rStrEq rfl rfl rfl) ?_
 refine Wn (Wc false rfl (Wk (Wq (V9 rfl (Vb rfl (V7 2 rfl (V5 (.string _) rfl (hI.c0 rfl) ?_)))))))
 refine Wv rfl (by exact rStrNeF rfl rfl rfl (by decide)) ?_
 refine Wn (Wc false rfl (Wq (V9 rfl (Vb rfl (V7 4 rfl (V5 (.slice _ _ _) rfl (hI.c0 rfl) ?_))))))
 refine Wv rfl (rNeSlNT rfl yy347 rfl) ?_
 refine Wn (Wc false rfl (Wq (V9 rfl (Vh rfl (Vb rfl (V7 2 rfl (Ue (.string _) hI rfl ?_)))))))
 intro w hI
 refine Wn (Wq (V9 rfl (T1 (.agg #[.string ⟨#[]⟩, .int .i64 0, .string ⟨#[]⟩, .pointer none, .slice none 0 0]) (#[.string ⟨#[]⟩, .int .i64 0, .string ⟨#[]⟩, .pointer none, .slice none 0 0]) hI rfl ?_)))
 rintro b230 w - - hI
 refine Vb rfl (V7 3 rfl ?_)
 refine WL_st1 (u := .pointer _) hI rfl rfl rfl rfl rfl rfl (by kernel_rfl) rfl rfl rfl ?_
 intro w hI
 refine Wn (Wr (V9 rfl (Vb rfl (V7 3 rfl (V5 (.pointer _) rfl (hI.c1 rfl) (Vh rfl (V0 rfl (V9 rfl (Va [.pointer _, .string _, .string _, .int .i64 _, .pointer _] rfl func192 rfl ?_)))))))))
 refine (add_nil _ R [] val none nilT p hI).mono ?_
 rintro e w1 ⟨rfl, hJ⟩
 refine rV ?_
 refine Wn ?_
 exact ret0 (.inl rfl) rfl ⟨rfl, _, hJ⟩
def mpF (b : UInt8) : Nat := if b = 35 then 0 else if b = 38 then 1 else if b = 51 then 2 else if b = 52 then 3 else if b = 57 then 4 else if b = 59 then 5 else if b = 97 then 6 else if b = 103 then 7 else if b = 108 then 8 else if b = 109 then 9 else if b = 112 then 10 else if b = 116 then 11 else 12
structure RepAt (w : World) (R : Nat) : Prop where
 sz : w.cell? ⟨R, 5, none⟩ = some (.int .i64 12)
 mp : ∀ b : UInt8, w.cell? ⟨R, 6 + b.toNat, none⟩ = some (.int .u8 (mpF b : Int))
theorem rIdxAj {P : Program} {ρ : Env} {o : Oper} {w : World} {x y : Operand} {t e n i g j : Nat} {k : IntKind} {zz : Int} (ho : o.op = .indexAddr t x y) (ht : P.underlying t = some (.array n e)) (hs : szB P e 1 = true) (hx : ev ρ x = .pointer (some ⟨g, j, none⟩)) (hy : ev ρ y = .int k zz) (hz : zz = (i : Int)) (hi : i < n) : Runs P ρ o w (.pointer (some ⟨g, j + i, none⟩)) := by
 have h := rIdxArr (P := P) (w := w) ho ht hs hx hy hz hi
 rwa [Nat.mul_one] at h
theorem rIdxS0 {P : Program} {ρ : Env} {o : Oper} {w : World} {x y : Operand} {t e n c i g : Nat} {k : IntKind} (ho : o.op = .indexAddr t x y) (ht : P.underlying t = some (.slice e)) (hs : szB P e 1 = true) (hx : ev ρ x = .slice (some ⟨g, 0, none⟩) n c) (hy : ev ρ y = .int k (i : Int)) (hi : i < n) : Runs P ρ o w (.pointer (some ⟨g, i, none⟩)) := by
 have h := rIdx (P := P) (w := w) (sz := 1) ho ht hs hx hy hi
 rwa [Nat.mul_one, Nat.zero_add] at h
abbrev nilP : Value := .pointer none
def tb2 (a b : Nat) (x y : Nat) : Array Value := ((rep nilP 12).setIfInBounds a (at0 x)).setIfInBounds b (at0 y)
theorem u8ne {a b : UInt8} (h : a ≠ b) : (a.toNat : Int) ≠ (b.toNat : Int) := fun e => h (UInt8.toNat_inj.1 (by omega))
theorem add_split0 (n R : Nat) (hRS : ¬ S R) (hR : RepAt w0 R) (v : List UInt8) (pr : Int) (p0 p1 c k1 : UInt8) (kr val : List UInt8) (q : Option Addr) (p : Int) (hne : p0 ≠ c) (h0 : mpF p0 < 12) (h1 : mpF c < 12) (hI : Inv S w0 w (B n 349 (tnC v pr [p0, p1] q nilT) :: H)) :
  Cq 192 #[at0 n, strV (c :: k1 :: kr), strV val, .int .i64 p, at0 R] w fun e w' => e = .returned (.tuple #[]) ∧ ∃ t pn kn m, Inv S w0 w' (B m 349 (tnC val p [] none nilT) :: B kn 349 (tnC [] 0 (k1 :: kr) (some ⟨m, 0, none⟩) nilT) :: B t 346 (tb2 (mpF p0) (mpF c) pn kn) :: B pn 349 (tnC [] 0 [p1] q nilT) :: B n 349 (tnC v pr [] none (.slice (some ⟨t, 0, none⟩) 12 12)) :: H) := by
 have hl1 : ([p0, p1] : List UInt8).length = 2 := rfl
 have hl2 : (c :: k1 :: kr).length = kr.length + 2 := rfl
 refine Vn func192 rfl ?_
 refine Ws (Wq (Vh rfl ?_))
 refine Wv rfl (by exact rStrEq rfl rfl rfl) ?_
 refine Wn (Wc false rfl (Wk (Wq (V9 rfl (Vb rfl (V7 2 rfl (V5 (.string _) rfl (hI.c0 rfl) ?_)))))))
 refine Wv rfl (by exact rStrNe rfl rfl rfl) ?_
 refine Wn (Wc true rfl (Wq (Vc rfl (Wn (Ws (Wb ?_))))))
 refine Wl (fun mu ρ w => Has ρ [(10, .int .i64 0), (0, at0 n), (1, strV (c :: k1 :: kr)), (2, strV val), (3, .int .i64 p), (4, at0 R)] ∧ Inv S w0 w (B n 349 (tnC v pr [p0, p1] q nilT) :: H)) 0 ⟨⟨rfl, rfl, rfl, rfl, rfl, rfl, trivial⟩, hI⟩ ?_
 clear hI
 rintro mu ρ w ⟨hH, hI⟩
 obtain ⟨σ, rfl⟩ := hH.open
 refine Ws (Wq (V0 rfl (V9 rfl (Vb rfl (V7 2 rfl (V5 (.string _) rfl (hI.c0 rfl) (T0 rfl yy9 rfl (Vt rfl (V6 rfl (V0 rfl (Vh rfl (T0 rfl yy9 rfl ?_))))))))))))
 refine Vt rfl (Vk rfl (Wn (Wc true rfl (Wk (Ws (Wb (Ws (Wd (by kernel_rfl) ?_))))))))
 refine Wi (T := []) hI.drew ?_
 intro Sx hY hZ
 have hI := hI.drew
 refine Vl 0 rfl (Vm 1 rfl (Vf 2 2 rfl (Vd 3 (.string _) rfl (fun W hW => (hY W hW).c0 rfl) (Vx 4 rfl (Uq 5 p0 0 rfl yy9 rfl (U6 6 rfl (Vx 7 rfl (Uq 8 c 0 rfl yy9 rfl ?_))))))))
 refine Wt 9 rfl (fun W hW => have hI := hY W hW; (rNeqT rfl rfl rfl (u8ne hne))) ?_
 refine We (by kernel_rfl) (Wc true rfl ?_)
 refine WE ?_
 refine Wq (V0 rfl (V9 rfl (Vb rfl (V7 2 rfl (V5 (.string _) rfl (hI.c0 rfl) (T0 rfl yy9 rfl (Vw rfl (Wn (Wc false rfl (Wq (V0 rfl ?_)))))))))))
 refine T5 rfl (Wn (Wc true rfl (Wq (Tm rfl (Wn (Ws (Wq (V9 rfl (Vb rfl (V7 2 rfl (V5 (.string _) rfl (hI.c0 rfl) ?_)))))))))))
 refine T0 rfl yy9 rfl (Vw rfl (Wn (Wc false rfl (Wd (by kernel_rfl) ?_))))
 refine Wi (T := [10]) hI.drew ?_
 intro Sx hY hZ
 have hI := hI.drew
 refine Vl 0 rfl (Vm 1 rfl (Vf 2 2 rfl (Vd 3 (.string _) rfl (fun W hW => (hY W hW).c0 rfl) ?_)))
 refine Wt 4 rfl (fun W hW => have hI := hY W hW; (rStrSlFrom (a := 1) rfl yy9 rfl rfl (by omega))) ?_
 refine Vl 5 rfl (Vm 6 rfl (Vf 7 3 rfl (Vd 8 (.pointer _) rfl (fun W hW => (hY W hW).c0 rfl) (U7 9 [(2, .string _), (3, .pointer _)] [_, _, _, _, _] rfl [.string ⟨#[]⟩, .int .i64 0, .string ⟨#[]⟩, .pointer none, .slice none 0 0] [2, 3] rfl (fun _ _ => fun _ => by kernel_rfl) ?_))))
 refine WT_A (by kernel_rfl) ?_
 clear hZ hY
 refine T2 10 rfl ?_
 refine Tb (.agg _) (#[_, _, _, _, _]) hI rfl ?_
 rintro b100 w - - hI
 refine Wn (T2 11 rfl ?_)
 refine Tm rfl (Wn ?_)
 refine WA_end (by kernel_rfl) ?_
 refine Wq (T1 (.agg #[.string ⟨#[]⟩, .int .i64 0, .string ⟨#[]⟩, .pointer none, .slice none 0 0]) (#[.string ⟨#[]⟩, .int .i64 0, .string ⟨#[]⟩, .pointer none, .slice none 0 0]) hI rfl ?_)
 rintro b101 w - - hI
 refine Tm rfl (Wn (Wq (V9 rfl (V9 rfl (Vb rfl (V7 5 rfl (V5 (.int .i64 _) rfl (hI.old hR.sz hRS) ?_)))))))
 refine WL_mk (n := 12) (z := nilP) (by_ := 8) hI rfl rfl rfl rfl rfl rfl yy347 (by kernel_rfl) rfl (by omega) (by omega) ?_
 rintro tb w - - hI
 refine Vb rfl (V7 4 rfl ?_)
 refine WL_st3 (u := .slice _ _ _) (j := 4) hI rfl rfl rfl rfl rfl rfl (by kernel_rfl) rfl rfl rfl ?_
 intro w hI
 refine Wn (Ws (Wd (by kernel_rfl) ?_))
 refine Wi (T := [16]) hI.d0.drew ?_
 intro Sx hY hZ
 have hI := hI.drew
 refine Vl 0 rfl (Vm 1 rfl (Vf 2 4 rfl (Vd 3 (.slice _ _ _) rfl (fun W hW => (hY W hW).c2 rfl) (Vl 4 rfl (Vl 5 rfl (Vm 6 rfl (Vf 7 2 rfl (Vd 8 (.string _) rfl (fun W hW => (hY W hW).c2 rfl) (Uq 9 p0 0 rfl yy9 rfl (Vm 10 rfl (Vf 11 6 rfl ?_)))))))))))
 refine Wt 12 rfl (fun W hW => have hI := hY W hW; (rIdxAj (i := p0.toNat) rfl yy156 (by kernel_rfl) rfl rfl rfl p0.toNat_lt)) ?_
 refine Vd 13 (.int .u8 _) rfl (fun W hW => have hI := hY W hW; hI.old (hR.mp p0) hRS) (Vl 14 rfl ?_)
 refine Wt 15 rfl (fun W hW => have hI := hY W hW; (rIdxS0 (i := mpF p0) rfl yy347 (by kernel_rfl) rfl rfl h0)) ?_
 refine WT_A (by kernel_rfl) ?_
 clear hZ hY
 refine T2 16 rfl ?_
 refine WL_st0 (u := at0 _) (j := mpF p0) hI rfl rfl rfl rfl rfl rfl (by kernel_rfl) rfl (by rw [rep_size]; exact Nat.ble_eq_true_of_le h0) rfl ?_
 intro w hI
 refine Wn ?_
 refine WA_end (by kernel_rfl) ?_
 refine Ws (Wd (by kernel_rfl) ?_)
 refine Wi (T := [13]) hI.d0.drew ?_
 intro Sx hY hZ
 have hI := hI.drew
 refine Vl 0 rfl (Vm 1 rfl (Vf 2 4 rfl (Vd 3 (.slice _ _ _) rfl (fun W hW => (hY W hW).c2 rfl) (Vl 4 rfl (U6 5 rfl (Uq 6 c 0 rfl yy9 rfl (Vm 7 rfl (Vf 8 6 rfl ?_))))))))
 refine Wt 9 rfl (fun W hW => have hI := hY W hW; (rIdxAj (i := c.toNat) rfl yy156 (by kernel_rfl) rfl rfl rfl c.toNat_lt)) ?_
 refine Vd 10 (.int .u8 _) rfl (fun W hW => have hI := hY W hW; hI.old (hR.mp c) hRS) (Vl 11 rfl ?_)
 refine Wt 12 rfl (fun W hW => have hI := hY W hW; (rIdxS0 (i := mpF c) rfl yy347 (by kernel_rfl) rfl rfl h1)) ?_
 refine WT_A (by kernel_rfl) ?_
 clear hZ hY
 refine T2 13 rfl ?_
 refine WL_st0 (u := at0 _) (j := mpF c) hI rfl rfl rfl rfl rfl rfl (by kernel_rfl) rfl (by rw [Array.size_setIfInBounds, rep_size]; exact Nat.ble_eq_true_of_le h1) rfl ?_
 intro w hI
 refine Wn ?_
 refine WA_end (by kernel_rfl) ?_
 refine Wq (V9 rfl (Vb rfl (V7 2 rfl ?_)))
 refine WL_st3 (u := .string _) hI rfl rfl rfl rfl rfl rfl (by kernel_rfl) rfl rfl rfl ?_
 intro w hI
 refine Wn (Wq (V9 rfl (Vb rfl (V7 3 rfl ?_))))
 refine WL_st3 (u := .pointer _) hI rfl rfl rfl rfl rfl rfl (by kernel_rfl) rfl rfl rfl ?_
 intro w hI
 refine Wn ?_
 have hI := hI.perm (List.Perm.swap _ _ _)
 refine Wr (V9 rfl (Vh rfl ?_))
 refine Wv rfl (rStrSlFrom (a := 1) rfl yy9 rfl rfl (by omega)) ?_
 refine Vh rfl (V0 rfl (V9 rfl (Va [.pointer _, .string _, .string _, .int .i64 _, .pointer _] rfl func192 rfl ?_)))
 refine (add_empty _ R k1 kr val p hI).mono ?_
 rintro e w1 ⟨rfl, m, hJ⟩
 refine rV ?_
 refine Wn ?_
 exact ret0 (.inl rfl) rfl ⟨rfl, _, _, _, _, hJ⟩
theorem add_splitN (n R : Nat) (hRS : ¬ S R) (hR : RepAt w0 R) (v : List UInt8) (pr : Int) (a b p0 p1 c k1 : UInt8) (kr val : List UInt8) (q : Option Addr) (p : Int) (hne : p0 ≠ c) (h0 : mpF p0 < 12) (h1 : mpF c < 12) (hI : Inv S w0 w (B n 349 (tnC v pr [a, b, p0, p1] q nilT) :: H)) :
  Cq 192 #[at0 n, strV (a :: b :: c :: k1 :: kr), strV val, .int .i64 p, at0 R] w fun e w' => e = .returned (.tuple #[]) ∧ ∃ t pn kn m cn, Inv S w0 w' (B m 349 (tnC val p [] none nilT) :: B kn 349 (tnC [] 0 (k1 :: kr) (some ⟨m, 0, none⟩) nilT) :: B t 346 (tb2 (mpF p0) (mpF c) pn kn) :: B pn 349 (tnC [] 0 [p1] q nilT) :: B cn 349 (tnC [] 0 [] none (.slice (some ⟨t, 0, none⟩) 12 12)) :: B n 349 (tnC v pr [a, b] (some ⟨cn, 0, none⟩) nilT) :: H) := by
 have hl1 : ([a, b, p0, p1] : List UInt8).length = 4 := rfl
 have hl2 : (a :: b :: c :: k1 :: kr).length = kr.length + 4 := rfl
 refine Vn func192 rfl ?_
 refine Ws (Wq (Vh rfl ?_))
 refine Wv rfl (by exact rStrEq rfl rfl rfl) ?_
 refine Wn (Wc false rfl (Wk (Wq (V9 rfl (Vb rfl (V7 2 rfl (V5 (.string _) rfl (hI.c0 rfl) ?_)))))))
 refine Wv rfl (by exact rStrNe rfl rfl rfl) ?_
 refine Wn (Wc true rfl (Wq (Vc rfl (Wn (Ws (Wb ?_))))))
 refine Wl (fun mu ρ w => ∃ k : Nat, mu = 2 - k ∧ k ≤ 2 ∧ Has ρ [(10, .int .i64 (k : Int)), (0, at0 n), (1, strV (a :: b :: c :: k1 :: kr)), (2, strV val), (3, .int .i64 p), (4, at0 R)] ∧ Inv S w0 w (B n 349 (tnC v pr [a, b, p0, p1] q nilT) :: H)) 2 ⟨0, rfl, by omega, ⟨rfl, rfl, rfl, rfl, rfl, rfl, trivial⟩, hI⟩ ?_
 clear hI
 rintro mu ρ w ⟨k, rfl, hk, hH, hI⟩
 obtain ⟨σ, rfl⟩ := hH.open
 by_cases hk2 : k < 2
 ·obtain ⟨x, hx1, hx2⟩ : ∃ x, [a, b, p0, p1][k]? = some x ∧ (a :: b :: c :: k1 :: kr)[k]? = some x := by
   obtain rfl | rfl : k = 0 ∨ k = 1 := by omega
   ·exact ⟨a, rfl, rfl⟩
   exact ⟨b, rfl, rfl⟩
  refine Ws (Wq (V0 rfl (V9 rfl (Vb rfl (V7 2 rfl (V5 (.string _) rfl (hI.c0 rfl) (T0 rfl yy9 rfl (Vt rfl (V6 rfl (V0 rfl (Vh rfl (T0 rfl yy9 rfl ?_))))))))))))
  refine Vt rfl (Vk rfl (Wn (Wc true rfl (Wk (Ws (Wb (Ws (Wd (by kernel_rfl) ?_))))))))
  refine Wi (T := []) hI.drew ?_
  intro Sx hY hZ
  have hI := hI.drew
  refine Vl 0 rfl (Vm 1 rfl (Vf 2 2 rfl (Vd 3 (.string _) rfl (fun W hW => (hY W hW).c0 rfl) (Vx 4 rfl ?_))))
  refine Wt 5 rfl (fun W hW => have hI := hY W hW; (rStrAt (c := x) (i := k) rfl yy9 rfl rfl hx1)) ?_
  refine U6 6 rfl (Vx 7 rfl ?_)
  refine Wt 8 rfl (fun W hW => have hI := hY W hW; (rStrAt (c := x) (i := k) rfl yy9 rfl rfl hx2)) ?_
  refine Wt 9 rfl (fun W hW => have hI := hY W hW; (rNeqF rfl rfl rfl rfl)) ?_
  refine We (by kernel_rfl) (Wc false rfl (Wk (Wr (V0 rfl (Vv rfl (Vc rfl (Wn ?_)))))))
  exact ⟨2 - (k + 1), by omega, k + 1, rfl, by omega, ⟨rfl, rfl, rfl, rfl, rfl, rfl, trivial⟩, hI⟩
 obtain rfl : k = 2 := by omega
 refine Ws (Wq (V0 rfl (V9 rfl (Vb rfl (V7 2 rfl (V5 (.string _) rfl (hI.c0 rfl) (T0 rfl yy9 rfl (Vt rfl (V6 rfl (V0 rfl (Vh rfl (T0 rfl yy9 rfl ?_))))))))))))
 refine Vt rfl (Vk rfl (Wn (Wc true rfl (Wk (Ws (Wb (Ws (Wd (by kernel_rfl) ?_))))))))
 refine Wi (T := []) hI.drew ?_
 intro Sx hY hZ
 have hI := hI.drew
 refine Vl 0 rfl (Vm 1 rfl (Vf 2 2 rfl (Vd 3 (.string _) rfl (fun W hW => (hY W hW).c0 rfl) (Vx 4 rfl (Uq 5 p0 2 rfl yy9 rfl (U6 6 rfl (Vx 7 rfl (Uq 8 c 2 rfl yy9 rfl ?_))))))))
 refine Wt 9 rfl (fun W hW => have hI := hY W hW; (rNeqT rfl rfl rfl (u8ne hne))) ?_
 refine We (by kernel_rfl) (Wc true rfl ?_)
 refine WE ?_
 refine Wq (V0 rfl (V9 rfl (Vb rfl (V7 2 rfl (V5 (.string _) rfl (hI.c0 rfl) (T0 rfl yy9 rfl (Vw rfl (Wn (Wc false rfl (Wq (V0 rfl ?_)))))))))))
 refine Vw rfl (Wn (Wc false rfl (Ws (Wd (by kernel_rfl) ?_))))
 refine Wi (T := [11]) hI.drew ?_
 intro Sx hY hZ
 have hI := hI.drew
 refine Vl 0 rfl (Vm 1 rfl (Vf 2 2 rfl (Vd 3 (.string _) rfl (fun W hW => (hY W hW).c0 rfl) (Vx 4 rfl ?_))))
 refine Wt 5 rfl (fun W hW => have hI := hY W hW; (rStrSlFrom (a := 2) rfl yy9 rfl rfl (by omega))) ?_
 refine Vl 6 rfl (Vm 7 rfl (Vf 8 3 rfl (Vd 9 (.pointer _) rfl (fun W hW => (hY W hW).c0 rfl) (U7 10 [(2, .string _), (3, .pointer _)] [_, _, _, _, _] rfl [.string ⟨#[]⟩, .int .i64 0, .string ⟨#[]⟩, .pointer none, .slice none 0 0] [2, 3] rfl (fun _ _ => fun _ => by kernel_rfl) ?_))))
 refine WT_A (by kernel_rfl) ?_
 clear hZ hY
 refine T2 11 rfl ?_
 refine Tb (.agg _) (#[_, _, _, _, _]) hI rfl ?_
 rintro b163 w - - hI
 refine Wn (T2 12 rfl ?_)
 refine Tm rfl (Wn ?_)
 refine WA_end (by kernel_rfl) ?_
 refine Wq (V9 rfl (V9 rfl (Vb rfl (V7 2 rfl (V5 (.string _) rfl (hI.c1 rfl) (V0 rfl ?_))))))
 refine Wv rfl (rStrSlTo (b := 2) rfl yy9 rfl rfl (by omega)) ?_
 refine Vb rfl (V7 2 rfl ?_)
 refine WL_st1 (u := .string _) hI rfl rfl rfl rfl rfl rfl (by kernel_rfl) rfl rfl rfl ?_
 intro w hI
 refine Wn (Wq (V9 rfl (V9 rfl (Vb rfl (V7 3 rfl ?_)))))
 refine WL_st1 (u := .pointer _) hI rfl rfl rfl rfl rfl rfl (by kernel_rfl) rfl rfl rfl ?_
 intro w hI
 refine Wn (Wr (V9 rfl (Vh rfl (V0 rfl ?_))))
 refine Wv rfl (rStrSlFrom (a := 2) rfl yy9 rfl rfl (by omega)) ?_
 refine Vh rfl (V0 rfl (V9 rfl (Va [.pointer _, .string _, .string _, .int .i64 _, .pointer _] rfl func192 rfl ?_)))
 refine (add_split0 _ R hRS hR [] 0 p0 p1 c k1 kr val q p hne h0 h1 hI).mono ?_
 rintro e w1 ⟨rfl, t, pn, kn, m, hJ⟩
 refine rV ?_
 refine Wn ?_
 exact ret0 (.inl rfl) rfl ⟨rfl, _, _, _, _, _, hJ⟩
theorem add_tab (n R t : Nat) (hRS : ¬ S R) (hR : RepAt w0 R) (tbl : Array Value) (c k1 : UInt8) (kr val : List UInt8) (p : Int) (h1 : mpF c < 12) (hsz : tbl.size = 12) (hnil : tbl[mpF c]? = some nilP) (hn : ∀ w' (X : List Ent), Inv S w0 w' (X ++ H) → w'.cell? ⟨n, 2, none⟩ = some (strV []) ∧ w'.cell? ⟨n, 4, none⟩ = some (.slice (some ⟨t, 0, none⟩) 12 12)) (hI : Inv S w0 w (B t 346 tbl :: H)) :
  Cq 192 #[at0 n, strV (c :: k1 :: kr), strV val, .int .i64 p, at0 R] w fun e w' => e = .returned (.tuple #[]) ∧ ∃ kn m, Inv S w0 w' (B m 349 (tnC val p [] none nilT) :: B kn 349 (tnC [] 0 (k1 :: kr) (some ⟨m, 0, none⟩) nilT) :: B t 346 (tbl.setIfInBounds (mpF c) (at0 kn)) :: H) := by
 refine Vn func192 rfl ?_
 refine Ws (Wq (Vh rfl ?_))
 refine Wv rfl (by exact rStrEq rfl rfl rfl) ?_
 refine Wn (Wc false rfl (Wk (Wq (V9 rfl (Vb rfl (V7 2 rfl (V5 (.string _) rfl ((hn _ [_] hI).1) ?_)))))))
 refine Wv rfl (by exact rStrNeF rfl rfl rfl (by decide)) ?_
 refine Wn (Wc false rfl (Wq (V9 rfl (Vb rfl (V7 4 rfl (V5 (.slice _ _ _) rfl ((hn _ [_] hI).2) ?_))))))
 refine Wv rfl (rNeSlNF rfl yy347 rfl) ?_
 refine Wn (Wc true rfl (Ws (Wd (by kernel_rfl) ?_)))
 refine Wi (T := []) hI.drew ?_
 intro Sx hY hZ
 have hI := hI.drew
 refine Vl 0 rfl (U6 1 rfl (Uq 2 c 0 rfl yy9 rfl (Vm 3 rfl (Vf 4 6 rfl ?_))))
 refine Wt 5 rfl (fun W hW => have hI := hY W hW; (rIdxAj (i := c.toNat) rfl yy156 (by kernel_rfl) rfl rfl rfl c.toNat_lt)) ?_
 refine Vd 6 (.int .u8 _) rfl (fun W hW => have hI := hY W hW; hI.old (hR.mp c) hRS) (Ty 7 rfl (We (by kernel_rfl) (Ws (Wq (V9 rfl (Vb rfl (V7 4 rfl (V5 (.slice _ _ _) rfl ((hn _ [_] hI).2) (V0 rfl ?_)))))))))
 refine Wv rfl (rIdxS0 (i := mpF c) rfl yy347 (by kernel_rfl) rfl rfl h1) ?_
 refine V5 (.pointer _) rfl (hI.c0 hnil) ?_
 refine Wv rfl (rPtrEqN rfl yy346 rfl rfl) ?_
 refine Wn (Wc true rfl (Wr (V9 rfl (Vb rfl (V7 4 rfl (V5 (.slice _ _ _) rfl ((hn _ [_] hI).2) (V0 rfl (T1 (.agg #[.string ⟨#[]⟩, .int .i64 0, .string ⟨#[]⟩, .pointer none, .slice none 0 0]) (#[.string ⟨#[]⟩, .int .i64 0, .string ⟨#[]⟩, .pointer none, .slice none 0 0]) hI rfl ?_))))))))
 rintro b210 w - - hI
 refine Wv rfl (rIdxS0 (i := mpF c) rfl yy347 (by kernel_rfl) rfl rfl h1) ?_
 refine WL_st1 (u := at0 _) (j := mpF c) hI rfl rfl rfl rfl rfl rfl (by kernel_rfl) rfl (by rw [hsz]; exact Nat.ble_eq_true_of_le h1) rfl ?_
 intro w hI
 refine Wn ?_
 have hI := hI.perm (List.Perm.swap _ _ _)
 have hcell : ∀ {kn : Nat}, (tbl.setIfInBounds (mpF c) (at0 kn))[mpF c]? = some (at0 kn) := fun {kn} => Array.getElem?_setIfInBounds_self_of_lt (by rw [hsz]; exact h1)
 refine Wd (by kernel_rfl) ?_
 refine Wi (T := [12]) hI.drew ?_
 intro Sx hY hZ
 have hI := hI.drew
 refine Vl 0 rfl (Vm 1 rfl (Vf 2 4 rfl (Vd 3 (.slice _ _ _) rfl (fun W hW => have hI := hY W hW; (hn _ [_, _] hI).2) (Vx 4 rfl ?_))))
 refine Wt 5 rfl (fun W hW => have hI := hY W hW; (rIdxS0 (i := mpF c) rfl yy347 (by kernel_rfl) rfl rfl h1)) ?_
 refine Vd 6 (at0 _) rfl (fun W hW => (hY W hW).c0 hcell) (U6 7 rfl ?_)
 refine Wt 8 rfl (fun W hW => have hI := hY W hW; (rStrSlFrom (a := 1) rfl yy9 rfl rfl (Nat.succ_le_succ (Nat.zero_le _)))) ?_
 refine U6 9 rfl (Vx 10 rfl (Vl 11 rfl ?_))
 refine WT_A (by kernel_rfl) ?_
 clear hZ hY
 refine T2 12 rfl ?_
 refine Va [.pointer _, .string _, .string _, .int .i64 _, .pointer _] rfl func192 rfl ?_
 refine (add_empty _ R k1 kr val p (hI.perm (List.Perm.swap _ _ _))).mono ?_
 rintro e w1 ⟨rfl, m, hJ⟩
 refine rV ?_
 refine Wn ?_
 refine WA_end (by kernel_rfl) ?_
 exact ret0 (.inl rfl) rfl ⟨rfl, _, _, hJ⟩
theorem add_down (n R t a : Nat) (c k1 : UInt8) (kr val : List UInt8) (p : Int) (h1 : mpF c < 12) (Q : Ending → World → Prop) (h2 : ∀ w', Pure w w' → w'.cell? ⟨n, 2, none⟩ = some (strV []) ∧ w'.cell? ⟨n, 4, none⟩ = some (.slice (some ⟨t, 0, none⟩) 12 12) ∧ w'.cell? ⟨R, 6 + c.toNat, none⟩ = some (.int .u8 (mpF c : Int)) ∧ w'.cell? ⟨t, mpF c, none⟩ = some (at0 a))
  (hA : ∀ w', Pure w w' → Cq 192 #[at0 a, strV (k1 :: kr), strV val, .int .i64 p, at0 R] w' fun e w'' => e = .returned (.tuple #[]) ∧ Q (.returned (.tuple #[])) w'') :
  Cq 192 #[at0 n, strV (c :: k1 :: kr), strV val, .int .i64 p, at0 R] w Q := by
 have hI := Inv.start (fun _ => False) w
 refine Vn func192 rfl ?_
 refine Ws (Wq (Vh rfl ?_))
 refine Wv rfl (by exact rStrEq rfl rfl rfl) ?_
 refine Wn (Wc false rfl (Wk (Wq (V9 rfl (Vb rfl (V7 2 rfl (V5 (.string _) rfl ((h2 _ hI.pu).1) ?_)))))))
 refine Wv rfl (by exact rStrNeF rfl rfl rfl (by decide)) ?_
 refine Wn (Wc false rfl (Wq (V9 rfl (Vb rfl (V7 4 rfl (V5 (.slice _ _ _) rfl ((h2 _ hI.pu).2.1) ?_))))))
 refine Wv rfl (rNeSlNF rfl yy347 rfl) ?_
 refine Wn (Wc true rfl (Ws (Wd (by kernel_rfl) ?_)))
 refine Wi (T := []) hI.drew ?_
 intro Sx hY hZ
 have hI := hI.drew
 refine Vl 0 rfl (U6 1 rfl (Uq 2 c 0 rfl yy9 rfl (Vm 3 rfl (Vf 4 6 rfl ?_))))
 refine Wt 5 rfl (fun W hW => have hI := hY W hW; (rIdxAj (i := c.toNat) rfl yy156 (by kernel_rfl) rfl rfl rfl c.toNat_lt)) ?_
 refine Vd 6 (.int .u8 _) rfl (fun W hW => have hI := hY W hW; (h2 _ hI.pu).2.2.1) (Ty 7 rfl (We (by kernel_rfl) (Ws (Wq (V9 rfl (Vb rfl (V7 4 rfl (V5 (.slice _ _ _) rfl ((h2 _ hI.pu).2.1) (V0 rfl ?_)))))))))
 refine Wv rfl (rIdxS0 (i := mpF c) rfl yy347 (by kernel_rfl) rfl rfl h1) ?_
 refine V5 (at0 _) rfl ((h2 _ hI.pu).2.2.2) ?_
 refine Wv rfl (rPtrEq rfl yy346 rfl rfl) ?_
 refine Wn (Wc false rfl (Wk (Wd (by kernel_rfl) ?_)))
 refine Wi (T := [12]) hI.drew ?_
 intro Sx hY hZ
 have hI := hI.drew
 refine Vl 0 rfl (Vm 1 rfl (Vf 2 4 rfl (Vd 3 (.slice _ _ _) rfl (fun W hW => have hI := hY W hW; (h2 _ hI.pu).2.1) (Vx 4 rfl ?_))))
 refine Wt 5 rfl (fun W hW => have hI := hY W hW; (rIdxS0 (i := mpF c) rfl yy347 (by kernel_rfl) rfl rfl h1)) ?_
 refine Vd 6 (at0 _) rfl (fun W hW => have hI := hY W hW; (h2 _ hI.pu).2.2.2) (U6 7 rfl ?_)
 refine Wt 8 rfl (fun W hW => have hI := hY W hW; (rStrSlFrom (a := 1) rfl yy9 rfl rfl (Nat.succ_le_succ (Nat.zero_le _)))) ?_
 refine U6 9 rfl (Vx 10 rfl (Vl 11 rfl ?_))
 refine WT_A (by kernel_rfl) ?_
 clear hZ hY
 refine T2 12 rfl ?_
 refine Va [.pointer _, .string _, .string _, .int .i64 _, .pointer _] rfl func192 rfl ?_
 refine (hA _ hI.pu).mono ?_
 rintro e w1 ⟨rfl, hJ⟩
 refine rV ?_
 refine Wn ?_
 refine WA_end (by kernel_rfl) ?_
 exact ret0 (.inl rfl) rfl hJ
end
def escR : List (List UInt8) := escL.reverse
def keyR (k : Nat) : List UInt8 := escR.getD (2 * k) []
def valR1 (k : Nat) : List UInt8 := escR.getD (2 * k + 1) []
theorem escR_at : ∀ k, k < 5 → escR[2 * k]? = some (keyR k) ∧ escR[2 * k + 1]? = some (valR1 k) ∧ (keyR k).length ≤ 5 := by decide
def seenR : Nat → List UInt8
 | 0 => []
 | k + 1 => seenR k ++ keyR k
def mkF (l : List UInt8) (b : Nat) : Nat := if l.any (fun c => c.toNat == b) then 1 else 0
def gnA (f : Nat → Nat) (ts : Nat) (tv : Value) : Array Value := ([strV [], .int .i64 0, strV [], nilP, tv, .int .i64 (ts : Int)] ++ (List.range 256).map fun b => Value.int .u8 (f b : Int)).toArray
theorem gnA_size (f : Nat → Nat) (ts : Nat) (tv : Value) : (gnA f ts tv).size = 262 := by simp [gnA]
theorem gnA_at {f : Nat → Nat} {ts : Nat} {tv : Value} {b : Nat} (h : b < 256) : (gnA f ts tv)[6 + b]? = some (.int .u8 (f b : Int)) := by
 unfold gnA
 rw [List.getElem?_toArray, List.getElem?_append_right (by simp), List.getElem?_map]
 simp [h]
theorem gnA_lo {f g : Nat → Nat} {ts : Nat} {tv : Value} {i : Nat} (h : i < 6) : (gnA f ts tv)[i]? = (gnA g ts tv)[i]? := by
 unfold gnA
 rw [List.getElem?_toArray, List.getElem?_toArray, List.getElem?_append_left (by simpa using h), List.getElem?_append_left (by simpa using h)]
theorem gnA_2 {f : Nat → Nat} {ts : Nat} {tv : Value} : (gnA f ts tv)[2]? = some (strV []) := rfl
theorem gnA_4 {f : Nat → Nat} {ts : Nat} {tv : Value} : (gnA f ts tv)[4]? = some tv := rfl
theorem gnA_5 {f : Nat → Nat} {ts : Nat} {tv : Value} : (gnA f ts tv)[5]? = some (.int .i64 (ts : Int)) := rfl
theorem gnA_ext {a : Array Value} {f : Nat → Nat} {ts : Nat} {tv : Value} (hs : a.size = 262) (h : ∀ i, i < 6 → a[i]? = (gnA f ts tv)[i]?) (h2 : ∀ b, b < 256 → a[6 + b]? = some (.int .u8 (f b : Int))) : a = gnA f ts tv := by
 apply Array.ext
 ·rw [hs, gnA_size]
 intro i q1 q2
 have e1 : a[i]? = (gnA f ts tv)[i]? := by
  by_cases hi : i < 6
  ·exact h i hi
  obtain ⟨b, rfl⟩ : ∃ b, i = 6 + b := ⟨i - 6, by omega⟩
  have hb : b < 256 := by omega
  rw [h2 b hb, gnA_at hb]
 rw [Array.getElem?_eq_getElem q1, Array.getElem?_eq_getElem q2] at e1
 exact Option.some.inj e1
theorem gnA_set {f f' : Nat → Nat} {ts : Nat} {tv : Value} {x : Nat} (hx : x < 256) (h : ∀ b, b < 256 → b ≠ x → f' b = f b) : (gnA f ts tv).setIfInBounds (6 + x) (.int .u8 (f' x : Int)) = gnA f' ts tv := by
 refine gnA_ext (by rw [Array.size_setIfInBounds, gnA_size]) (fun i hi => ?_) (fun b hb => ?_)
 ·rw [Array.getElem?_setIfInBounds_ne (by omega)]
  exact gnA_lo hi
 by_cases hbx : b = x
 ·subst hbx
  rw [Array.getElem?_setIfInBounds_self_of_lt (by rw [gnA_size]; omega)]
 rw [Array.getElem?_setIfInBounds_ne (by omega), gnA_at hb, h b hb hbx]
theorem gnA_set5 {f : Nat → Nat} {ts ts' : Nat} {tv : Value} : (gnA f ts tv).setIfInBounds 5 (.int .i64 (ts' : Int)) = gnA f ts' tv := by
 unfold gnA
 rw [List.setIfInBounds_toArray]; rfl
theorem gnA_set4 {f : Nat → Nat} {ts : Nat} {tv tv' : Value} : (gnA f ts tv).setIfInBounds 4 tv' = gnA f ts tv' := by
 unfold gnA
 rw [List.setIfInBounds_toArray]; rfl
theorem mkF_next (l : List UInt8) (x : UInt8) : mkF (l ++ [x]) x.toNat = 1 ∧ ∀ b, b ≠ x.toNat → mkF (l ++ [x]) b = mkF l b := by
 unfold mkF
 refine ⟨?_, fun b hb => ?_⟩
 ·rw [if_pos]
  rw [List.any_append]
  simp
 rw [List.any_append]
 have : ([x].any fun c => c.toNat == b) = false := by
  simp only [List.any_cons, List.any_nil, Bool.or_false, beq_eq_false_iff_ne]
  omega
 rw [this, Bool.or_false]
def KB : List UInt8 := seenR 5
def cnK : Nat → Nat
 | 0 => 0
 | i + 1 => cnK i + mkF KB i
def mpN (b : Nat) : Nat := if mkF KB b = 0 then 12 else cnK b
theorem cnK_le : ∀ i, i ≤ 256 → cnK i ≤ 12 ∧ (i < 256 → mkF KB i ≤ 1) := by decide +kernel
theorem cnK_all : cnK 256 = 12 := by decide +kernel
theorem mpN_mp : ∀ b, b < 256 → mpN b = mpF (UInt8.ofNat b) := by decide +kernel
theorem mpN_mpF (b : UInt8) : mpN b.toNat = mpF b := by
 rw [mpN_mp _ b.toNat_lt, UInt8.ofNat_toNat]
def mixF (i b : Nat) : Nat := if b < i then mpN b else mkF KB b
abbrev nd (n : Nat) (pre : List UInt8) (nx : Option Addr) (tb : Value) : Ent := B n 349 (tnC [] 0 pre nx tb)
abbrev lf (n : Nat) (val : List UInt8) (p : Int) : Ent := B n 349 (tnC val p [] none nilT)
abbrev sl12 (t : Nat) : Value := .slice (some ⟨t, 0, none⟩) 12 12
abbrev pt (a : Nat) : Option Addr := some ⟨a, 0, none⟩
def rt0 (a : Nat) : Array Value := (rep nilP 12).setIfInBounds 1 (at0 a)
def TS (S : Nat → Prop) (w0 : World) (tb : Nat) (w : World) : Nat → Prop
 | 0 => Inv S w0 w [B tb 346 (rep nilP 12)]
 | 1 => ∃ a b, Inv S w0 w [lf b [39] 10, nd a [35, 51, 57, 59] (pt b) nilT, B tb 346 (rt0 a)]
 | 2 => ∃ a b c d e f tC, Inv S w0 w [lf f [34] 8, nd e [59] (pt f) nilT, B tC 346 (tb2 4 3 d e), nd d [59] (pt b) nilT, nd c [] none (sl12 tC), nd a [35, 51] (pt c) nilT, lf b [39] 10, B tb 346 (rt0 a)]
 | 3 => ∃ a b c d e f g h i tC tA, Inv S w0 w [lf i [62] 6, nd h [116, 59] (pt i) nilT, B tA 346 (tb2 0 7 g h), nd g [51] (pt c) nilT, nd a [] none (sl12 tA), lf f [34] 8, nd e [59] (pt f) nilT, B tC 346 (tb2 4 3 d e), nd d [59] (pt b) nilT, nd c [] none (sl12 tC), lf b [39] 10, B tb 346 (rt0 a)]
 | 4 => ∃ a b c d e f g h i j k tC tA, Inv S w0 w [lf k [60] 4, nd j [116, 59] (pt k) nilT, B tA 346 ((tb2 0 7 g h).setIfInBounds 8 (at0 j)), lf i [62] 6, nd h [116, 59] (pt i) nilT, nd g [51] (pt c) nilT, nd a [] none (sl12 tA), lf f [34] 8, nd e [59] (pt f) nilT, B tC 346 (tb2 4 3 d e), nd d [59] (pt b) nilT, nd c [] none (sl12 tC), lf b [39] 10, B tb 346 (rt0 a)]
 | _ => ∃ a b c d e f g h i j k l m tC tA, Inv S w0 w [lf m [38] 2, nd l [109, 112, 59] (pt m) nilT, B tA 346 (((tb2 0 7 g h).setIfInBounds 8 (at0 j)).setIfInBounds 6 (at0 l)), lf k [60] 4, nd j [116, 59] (pt k) nilT, lf i [62] 6, nd h [116, 59] (pt i) nilT, nd g [51] (pt c) nilT, nd a [] none (sl12 tA), lf f [34] 8, nd e [59] (pt f) nilT, B tC 346 (tb2 4 3 d e), nd d [59] (pt b) nilT, nd c [] none (sl12 tC), lf b [39] 10, B tb 346 (rt0 a)]
structure RootAt (w : World) (R tb : Nat) : Prop where
 rep : RepAt w R
 pre : w.cell? ⟨R, 2, none⟩ = some (strV [])
 tab : w.cell? ⟨R, 4, none⟩ = some (sl12 tb)
section
variable {S : Nat → Prop} {w0 w : World} {R tb : Nat}
abbrev AddTo (S : Nat → Prop) (w0 : World) (R tb : Nat) (w : World) (key val : List UInt8) (p : Int) (k : Nat) : Prop :=
 Cq 192 #[at0 R, strV key, strV val, .int .i64 p, at0 R] w fun e w' => e = .returned (.tuple #[]) ∧ TS S w0 tb w' k
theorem ts0 (hS : ¬ S R) (hR : RootAt w0 R tb) (h : TS S w0 tb w 0) : AddTo S w0 R tb w [38, 35, 51, 57, 59] [39] 10 1 := by
 refine (add_tab R R tb hS hR.rep (rep nilP 12) 38 35 [51, 57, 59] [39] 10 (by decide) (rep_size ..) (rep_get _ (by decide)) (fun w' X hI => ⟨hI.old hR.pre hS, hI.old hR.tab hS⟩) h).mono ?_
 rintro e w' ⟨rfl, kn, m, hJ⟩
 exact ⟨rfl, kn, m, hJ⟩
theorem ts_down (hS : ¬ S R) (hR : RootAt w0 R tb) {H : List Ent} {a i : Nat} (hI : Inv S w0 w H) (hi : H[i]? = some (B tb 346 (rt0 a))) (k1 : UInt8) (kr val : List UInt8) (p : Int) (Q : World → Prop)
  (hA : ∀ w', Inv S w0 w' H → Cq 192 #[at0 a, strV (k1 :: kr), strV val, .int .i64 p, at0 R] w' fun e w'' => e = .returned (.tuple #[]) ∧ Q w'') :
  Cq 192 #[at0 R, strV (38 :: k1 :: kr), strV val, .int .i64 p, at0 R] w fun e w' => e = .returned (.tuple #[]) ∧ Q w' := by
 refine add_down R R tb a 38 k1 kr val p (by decide) _ (fun w' hp => ⟨(hI.pure hp).old hR.pre hS, (hI.pure hp).old hR.tab hS, (hI.pure hp).old (hR.rep.mp 38) hS, ?_⟩) (fun w' hp => (hA w' (hI.pure hp)).mono fun e w'' h => ⟨h.1, rfl, h.2⟩)
 exact (hI.pure hp).cell i hi rfl
theorem ts1 (hS : ¬ S R) (hR : RootAt w0 R tb) (h : TS S w0 tb w 1) : AddTo S w0 R tb w [38, 35, 51, 52, 59] [34] 8 2 := by
 obtain ⟨a, b, hI⟩ := h
 refine ts_down hS hR (i := 2) hI rfl 35 [51, 52, 59] [34] 8 _ (fun w' hI => (add_splitN a R hS hR.rep [] 0 35 51 57 59 52 59 [] [34] (pt b) 8 (by decide) (by decide) (by decide) (hI.pull 1 rfl)).mono ?_)
 rintro e w' ⟨rfl, t, pn, kn, m, cn, hJ⟩
 exact ⟨rfl, a, b, cn, pn, kn, m, t, hJ⟩
theorem ts2 (hS : ¬ S R) (hR : RootAt w0 R tb) (h : TS S w0 tb w 2) : AddTo S w0 R tb w [38, 103, 116, 59] [62] 6 3 := by
 obtain ⟨a, b, c, d, e, f, tC, hI⟩ := h
 refine ts_down hS hR (i := 7) hI rfl 103 [116, 59] [62] 6 _ (fun w' hI => (add_split0 a R hS hR.rep [] 0 35 51 103 116 [59] [62] (pt c) 6 (by decide) (by decide) (by decide) (hI.pull 5 rfl)).mono ?_)
 rintro e' w' ⟨rfl, t, pn, kn, m, hJ⟩
 exact ⟨rfl, a, b, c, d, e, f, pn, kn, m, tC, t, hJ⟩
theorem ts3 (hS : ¬ S R) (hR : RootAt w0 R tb) (h : TS S w0 tb w 3) : AddTo S w0 R tb w [38, 108, 116, 59] [60] 4 4 := by
 obtain ⟨a, b, c, d, e, f, g, h, i, tC, tA, hI⟩ := h
 refine ts_down hS hR (i := 11) hI rfl 108 [116, 59] [60] 4 _ (fun w' hI => (add_tab a R tA hS hR.rep (tb2 0 7 g h) 108 116 [59] [60] 4 (by decide) rfl rfl (fun w' X hI => ⟨hI.cell (X.length + 3) (by rw [List.getElem?_append_right (by omega), Nat.add_sub_cancel_left]; rfl) rfl, hI.cell (X.length + 3) (by rw [List.getElem?_append_right (by omega), Nat.add_sub_cancel_left]; rfl) rfl⟩) (hI.pull 2 rfl)).mono ?_)
 rintro e' w' ⟨rfl, kn, m, hJ⟩
 exact ⟨rfl, a, b, c, d, e, f, g, h, i, kn, m, tC, tA, hJ⟩
theorem ts4 (hS : ¬ S R) (hR : RootAt w0 R tb) (h : TS S w0 tb w 4) : AddTo S w0 R tb w [38, 97, 109, 112, 59] [38] 2 5 := by
 obtain ⟨a, b, c, d, e, f, g, h, i, j, k, tC, tA, hI⟩ := h
 refine ts_down hS hR (i := 13) hI rfl 97 [109, 112, 59] [38] 2 _ (fun w' hI => (add_tab a R tA hS hR.rep ((tb2 0 7 g h).setIfInBounds 8 (at0 j)) 97 109 [112, 59] [38] 2 (by decide) rfl rfl (fun w' X hI => ⟨hI.cell (X.length + 5) (by rw [List.getElem?_append_right (by omega), Nat.add_sub_cancel_left]; rfl) rfl, hI.cell (X.length + 5) (by rw [List.getElem?_append_right (by omega), Nat.add_sub_cancel_left]; rfl) rfl⟩) (hI.pull 2 rfl)).mono ?_)
 rintro e' w' ⟨rfl, kn, m, hJ⟩
 exact ⟨rfl, a, b, c, d, e, f, g, h, i, j, k, kn, m, tC, tA, hJ⟩
theorem ts_step (hS : ¬ S R) (hR : RootAt w0 R tb) (k : Nat) (hk : k < 5) (h : TS S w0 tb w k) : AddTo S w0 R tb w (keyR k) (valR1 k) ((10 - 2 * k : Nat) : Int) (k + 1) := by
 obtain rfl | rfl | rfl | rfl | rfl : k = 0 ∨ k = 1 ∨ k = 2 ∨ k = 3 ∨ k = 4 := by omega
 ·exact ts0 hS hR h
 ·exact ts1 hS hR h
 ·exact ts2 hS hR h
 ·exact ts3 hS hR h
 exact ts4 hS hR h
end
theorem rIxArrB {P : Program} {ρ : Env} {o : Oper} {w : World} {x y : Operand} {e t i n : Nat} {k : IntKind} {l : List Value} {v : Value} (ho : o.op = .index t x y) (ht : P.underlying t = some (.array n e)) (hp : plainB P e = true) (hs : szB P e 1 = true) (hx : ev ρ x = .agg l.toArray) (hy : ev ρ y = .int k (i : Int)) (hi : i < n) (hl : l[i]? = some v) : Runs P ρ o w v := by
 have hi' : (i : Int) < (n : Int) := by omega
 simp [Runs, execOp, ho, hx, hy, Instr.index, asIntOf, run_underlying ht, run_size hs, part, run_isAgg_plain hp, hi, hl]
theorem gnA_mark (l : List UInt8) (x : UInt8) {ts : Nat} {tv : Value} : (gnA (mkF l) ts tv).setIfInBounds (6 + x.toNat) (.int .u8 1) = gnA (mkF (l ++ [x])) ts tv := by
 have h := gnA_set (f := mkF l) (f' := mkF (l ++ [x])) (ts := ts) (tv := tv) x.toNat_lt (fun b _ hb => (mkF_next l x).2 b hb)
 rw [(mkF_next l x).1] at h
 exact h
theorem gnA_mix {i : Nat} {ts : Nat} {tv : Value} (h : i < 256) : (gnA (mixF i) ts tv).setIfInBounds (6 + i) (.int .u8 (mpN i : Int)) = gnA (mixF (i + 1)) ts tv := by
 have h1 := gnA_set (f := mixF i) (f' := mixF (i + 1)) (ts := ts) (tv := tv) h (fun b _ hb => by
  unfold mixF
  by_cases q : b < i
  ·rw [if_pos q, if_pos (by omega)]
  rw [if_neg q, if_neg (by omega)])
 rw [show mixF (i + 1) i = mpN i by unfold mixF; rw [if_pos (by omega)]] at h1
 exact h1
theorem mixF_0 : mixF 0 = mkF KB := by
 funext b
 unfold mixF
 rw [if_neg (by omega)]
theorem rInc8 {P : Program} {ρ : Env} {o : Oper} {w : World} {x y : Operand} {t t' : TypeId} {n : Nat} (ho : o.op = .binOp .add t x y t') (hx : ev ρ x = .int .u8 (n : Int)) (hy : ev ρ y = .int .u8 1) (h : n < 255) : Runs P ρ o w (.int .u8 ((n + 1 : Nat) : Int)) := by
 have h1 := rAddW (P := P) (w := w) ho hx hy
 rw [show (n : Int) + 1 = ((n + 1 : Nat) : Int) by omega, wrap_u8 (by omega)] at h1
 exact h1
theorem TS.chg {S : Nat → Prop} {w0 w : World} {tb : Nat} : ∀ {k : Nat}, TS S w0 tb w k → Chg S w0 w
 | 0, h => Inv.chg h
 | 1, ⟨_, _, h⟩ => h.chg
 | 2, ⟨_, _, _, _, _, _, _, h⟩ => h.chg
 | 3, ⟨_, _, _, _, _, _, _, _, _, _, _, h⟩ => h.chg
 | 4, ⟨_, _, _, _, _, _, _, _, _, _, _, _, _, h⟩ => h.chg
 | _ + 5, ⟨_, _, _, _, _, _, _, _, _, _, _, _, _, _, _, h⟩ => h.chg
theorem TS.pure {S : Nat → Prop} {w0 w w' : World} {tb : Nat} (hp : Pure w w') : ∀ {k : Nat}, TS S w0 tb w k → TS S w0 tb w' k
 | 0, h => Inv.pure h hp
 | 1, ⟨_, _, h⟩ => ⟨_, _, h.pure hp⟩
 | 2, ⟨_, _, _, _, _, _, _, h⟩ => ⟨_, _, _, _, _, _, _, h.pure hp⟩
 | 3, ⟨_, _, _, _, _, _, _, _, _, _, _, h⟩ => ⟨_, _, _, _, _, _, _, _, _, _, _, h.pure hp⟩
 | 4, ⟨_, _, _, _, _, _, _, _, _, _, _, _, _, h⟩ => ⟨_, _, _, _, _, _, _, _, _, _, _, _, _, h.pure hp⟩
 | _ + 5, ⟨_, _, _, _, _, _, _, _, _, _, _, _, _, _, _, h⟩ => ⟨_, _, _, _, _, _, _, _, _, _, _, _, _, _, _, h.pure hp⟩
def mapL (f : Nat → Nat) : List Value := (List.range 256).map fun b => Value.int .u8 (f b : Int)
theorem mapL_len (f : Nat → Nat) : (mapL f).length = 256 := by simp [mapL]
theorem mapL_at {f : Nat → Nat} {b : Nat} (h : b < 256) : (mapL f)[b]? = some (.int .u8 (f b : Int)) := by
 unfold mapL
 rw [List.getElem?_map, List.getElem?_range h]; rfl
theorem gn_map {S : Nat → Prop} {w0 w : World} {H : List Ent} {R t : Nat} {f : Nat → Nat} {ts : Nat} {tv : Value} (hI : Inv S w0 w (B R t (gnA f ts tv) :: H)) (k : Nat) (u : Value) (hk : (mapL f)[k]? = some u) : w.cell? ⟨R, 6 + k, none⟩ = some u := by
 have hlt : k < 256 := by
  have := (List.getElem?_eq_some_iff.1 hk).1
  rwa [mapL_len] at this
 rw [mapL_at hlt] at hk
 rw [← Option.some.inj hk]
 exact hI.c0 (gnA_at hlt)
set_option maxRecDepth 4000 in
theorem mkgen_any (g o c : Nat) (w0 : World) (hc : ∀ (j : Nat) x, escR[j]? = some x → w0.cell? ⟨g, o + j, none⟩ = some (strV x)) :
  Cq 152 #[.slice (some ⟨g, o, none⟩) 10 c] w0 fun e w' => ∃ R tb w5, e = .returned (at0 R) ∧ RootAt w5 R tb ∧ Inv NF w0 w5 [B R 351 (gnA (mixF 256) 12 (sl12 tb)), B tb 346 (rep nilP 12)] ∧ TS (DLs [B tb 346 (rep nilP 12)]) w5 tb w' 5 := by
 have hI := Inv.start (fun _ => False) w0
 refine Vn func152 rfl ?_
 refine Wq (Tm rfl (Wn (Wq (T1 (.agg (gnA (mkF []) 0 nilT)) (gnA (mkF []) 0 nilT) hI rfl ?_))))
 rintro R w - - hI
 refine Tm rfl (Wn ?_)
 refine Wx (fun ρ w => Has ρ [(3, at0 R), (0, .slice (some ⟨g, o, none⟩) 10 c)] ∧ Inv NF w0 w [B R 351 (gnA (mkF KB) 0 nilT)]) ?_ ?_
 ·refine Wq (Vc rfl (Wn (Wb ?_)))
  refine Wl (fun mu ρ w => ∃ (k : Nat) (z : Int), mu = 5 - k ∧ k ≤ 5 ∧ z = 2 * (k : Int) ∧ Has ρ [(4, .int .i64 z), (3, at0 R), (0, .slice (some ⟨g, o, none⟩) 10 c)] ∧ Inv NF w0 w [B R 351 (gnA (mkF (seenR k)) 0 nilT)]) 5
   ⟨0, 0, rfl, by omega, rfl, ⟨rfl, rfl, rfl, trivial⟩, hI⟩ ?_
  clear hI
  rintro mu ρ w ⟨k, z, rfl, hk, hz, hH, hI⟩
  obtain ⟨m, rfl⟩ : ∃ m : Nat, z = (m : Int) := ⟨2 * k, by omega⟩
  obtain ⟨σ, rfl⟩ := hH.open
  by_cases hk5 : k < 5
  rotate_left
  ·obtain rfl : k = 5 := by omega
   refine Ws (Wq (V0 rfl (Vi rfl (Vs rfl yy72 rfl (Vr rfl (Wn (Wc false rfl ?_)))))))
   refine WE ?_
   exact ⟨⟨rfl, rfl, trivial⟩, hI⟩
  obtain rfl : m = 2 * k := by omega
  obtain ⟨h1, -, h3⟩ := escR_at k hk5
  have hc1 := hc _ _ h1
  refine Ws (Wq (V0 rfl (Vi rfl (Vs rfl yy72 rfl (Vt rfl (Wn (Wc true rfl (Wk (Ws (Wb (Ws (Wr ?_))))))))))))
  refine Vi rfl (V0 rfl (U8 rfl yy72 rfl (V5 (.string _) rfl (hI.oldp hc1) (T4 rfl (Wn (Wq (Vc rfl (Wn (Wb ?_)))))))))
  refine Wl (fun mu ρ w => ∃ (j : Nat), mu = (keyR k).length - j ∧ j ≤ (keyR k).length ∧ Has ρ [(6, .int .i64 (j : Int)), (5, strV (keyR k)), (4, .int .i64 ((2 * k : Nat) : Int)), (3, at0 R), (0, .slice (some ⟨g, o, none⟩) 10 c)] ∧ Inv NF w0 w [B R 351 (gnA (mkF (seenR k ++ (keyR k).take j)) 0 nilT)]) (keyR k).length
   ⟨0, rfl, by omega, ⟨rfl, rfl, rfl, rfl, rfl, trivial⟩, by rw [List.take_zero, List.append_nil]; exact hI⟩ ?_
  clear hI
  rintro mu ρ w ⟨j, rfl, hj, hH, hI⟩
  obtain ⟨σ, rfl⟩ := hH.open
  by_cases hjl : j < (keyR k).length
  rotate_left
  ·obtain rfl : j = (keyR k).length := by omega
   rw [List.take_length] at hI
   refine Ws (Wq (V0 rfl (Vh rfl (T0 rfl yy9 rfl (Vr rfl (Wn (Wc false rfl ?_)))))))
   refine WE ?_
   refine Wr (V0 rfl (Ud rfl (Vc rfl (Wn ?_))))
   exact ⟨5 - (k + 1), by omega, k + 1, _, rfl, by omega, by omega, ⟨rfl, rfl, rfl, trivial⟩, hI⟩
  obtain ⟨x, hx⟩ : ∃ x, (keyR k)[j]? = some x := ⟨_, List.getElem?_eq_getElem hjl⟩
  refine Ws (Wq (V0 rfl (Vh rfl (T0 rfl yy9 rfl (Vt rfl (Wn (Wc true rfl (Wk (Ws (Wb (Wd (by kernel_rfl) ?_)))))))))))
  refine Wi (T := [7]) hI.drew ?_
  intro Sx hY hZ
  have hI := hI.drew
  refine Vl 0 rfl (U6 1 rfl (Vx 2 rfl ?_))
  refine Wt 3 rfl (fun W hW => have hI := hY W hW; (rStrAt (c := x) (i := j) rfl yy9 rfl rfl hx)) ?_
  refine Vm 4 rfl (Vf 5 6 rfl ?_)
  refine Wt 6 rfl (fun W hW => have hI := hY W hW; (rIdxAj (i := x.toNat) rfl yy156 (by kernel_rfl) rfl rfl rfl x.toNat_lt)) ?_
  refine WT_A (by kernel_rfl) ?_
  clear hZ hY
  refine T2 7 rfl ?_
  refine WL_st0 (u := .int .u8 1) (j := 6 + x.toNat) hI rfl rfl rfl rfl rfl rfl (by kernel_rfl) rfl (by have := x.toNat_lt; rw [gnA_size]; exact Nat.ble_eq_true_of_le (by omega)) (gnA_mark _ x) ?_
  intro w hI
  refine Wn ?_
  refine WA_end (by kernel_rfl) ?_
  refine Wr (V0 rfl (Vv rfl (Vc rfl (Wn ?_))))
  exact ⟨(keyR k).length - (j + 1), by omega, j + 1, rfl, by omega, ⟨rfl, rfl, rfl, rfl, rfl, trivial⟩, by rw [take_at hx, ← List.append_assoc]; exact hI⟩
 clear hI
 rintro ρ w ⟨hH, hI⟩
 obtain ⟨σ, rfl⟩ := hH.open
 refine Wx (fun ρ w => Has ρ [(3, at0 R), (0, .slice (some ⟨g, o, none⟩) 10 c)] ∧ Inv NF w0 w [B R 351 (gnA (mkF KB) 12 nilT)]) ?_ ?_
 ·refine Wq (V9 rfl (Vb rfl (V7 6 rfl ?_)))
  refine Wv rfl (rLdA (n := 256) (l := mapL (mkF KB)) rfl (by kernel_rfl) (by kernel_rfl) rfl (mapL_len _) (gn_map hI)) ?_
  refine V0 rfl (Wn (Wb ?_))
  refine Wl (fun mu ρ w => ∃ (i : Nat), mu = 256 - i ∧ i ≤ 256 ∧ Has ρ [(41, .int .i64 (i : Int)), (40, .agg (mapL (mkF KB)).toArray), (3, at0 R), (0, .slice (some ⟨g, o, none⟩) 10 c)] ∧ Inv NF w0 w [B R 351 (gnA (mkF KB) (cnK i) nilT)]) 256
   ⟨0, rfl, by omega, ⟨rfl, rfl, rfl, rfl, trivial⟩, hI⟩ ?_
  clear hI
  rintro mu ρ w ⟨i, rfl, hi, hH, hI⟩
  obtain ⟨σ, rfl⟩ := hH.open
  by_cases hil : i < 256
  rotate_left
  ·obtain rfl : i = 256 := by omega
   rw [cnK_all] at hI
   refine Wq (Vr rfl (Wn (Ws (Wc false rfl ?_))))
   refine WE ?_
   exact ⟨⟨rfl, rfl, trivial⟩, hI⟩
  obtain ⟨hc1, hc2⟩ := cnK_le i hi
  have hc2 := hc2 hil
  refine Wq (Vt rfl (Wn (Ws (Wc true rfl (Wk (Ws (Wb (Ws (Wr ?_)))))))))
  refine Wv rfl (rIxArrB (i := i) rfl yy156 (by kernel_rfl) (by kernel_rfl) rfl rfl hil (mapL_at hil)) ?_
  refine Vc rfl (Wn (Wr (V9 rfl (Vb rfl (V7 5 rfl (V5 (.int .i64 _) rfl (hI.c0 gnA_5) (V0 rfl ?_)))))))
  refine Wv rfl (rConv_i64 rfl yy5 yy3 rfl (by omega)) ?_
  refine Wv rfl (rAddNN rfl rfl rfl (by omega)) ?_
  refine Vb rfl (V7 5 rfl ?_)
  refine WL_st0 (u := .int .i64 ((cnK i + mkF KB i : Nat) : Int)) (j := 5) hI rfl rfl rfl rfl rfl rfl (by kernel_rfl) rfl (by rw [gnA_size]; rfl) gnA_set5 ?_
  intro w hI
  refine Wn (Wr (Vv rfl (V0 rfl (Wn ?_))))
  exact ⟨256 - (i + 1), by omega, i + 1, rfl, by omega, ⟨rfl, rfl, rfl, rfl, trivial⟩, hI⟩
 clear hI
 rintro ρ w ⟨hH, hI⟩
 obtain ⟨σ, rfl⟩ := hH.open
 refine Wq (Vc rfl (Wn ?_))
 refine Wx (fun ρ w => Has ρ [(3, at0 R), (0, .slice (some ⟨g, o, none⟩) 10 c)] ∧ Inv NF w0 w [B R 351 (gnA (mixF 256) 12 nilT)]) ?_ ?_
 ·refine Wq (V9 rfl (Vb rfl (V7 6 rfl ?_)))
  refine Wv rfl (rLdA (n := 256) (l := mapL (mkF KB)) rfl (by kernel_rfl) (by kernel_rfl) rfl (mapL_len _) (gn_map hI)) ?_
  refine V0 rfl (Wn (Wb ?_))
  refine Wl (fun mu ρ w => ∃ (i : Nat), mu = 256 - i ∧ i ≤ 256 ∧ Has ρ [(58, .int .i64 (i : Int)), (57, .agg (mapL (mkF KB)).toArray), (9, .int .u8 (cnK i : Int)), (3, at0 R), (0, .slice (some ⟨g, o, none⟩) 10 c)] ∧ Inv NF w0 w [B R 351 (gnA (mixF i) 12 nilT)]) 256
   ⟨0, rfl, by omega, ⟨rfl, rfl, rfl, rfl, rfl, trivial⟩, by rw [mixF_0]; exact hI⟩ ?_
  clear hI
  rintro mu ρ w ⟨i, rfl, hi, hH, hI⟩
  obtain ⟨σ, rfl⟩ := hH.open
  by_cases hil : i < 256
  rotate_left
  ·obtain rfl : i = 256 := by omega
   refine Wq (Vr rfl (Wn (Ws (Wc false rfl ?_))))
   refine WE ?_
   exact ⟨⟨rfl, rfl, trivial⟩, hI⟩
  obtain ⟨hc1, hc2⟩ := cnK_le i hi
  have hc2 := hc2 hil
  refine Wq (Vt rfl (Wn (Ws (Wc true rfl (Wk (Ws (Wb (Wq (V0 rfl ?_)))))))))
  refine Wv rfl (rIxArrB (i := i) rfl yy156 (by kernel_rfl) (by kernel_rfl) rfl rfl hil (mapL_at hil)) ?_
  refine Vc rfl (Vc rfl (Wn ?_))
  by_cases hz : mkF KB i = 0
  ·have hm : mpN i = 12 := by unfold mpN; rw [if_pos hz]
   have hn : cnK (i + 1) = cnK i := by rw [cnK, hz, Nat.add_zero]
   refine Wq (V0 rfl (T5 rfl (Wn (Wc true rfl (Wd (by kernel_rfl) ?_)))))
   refine Wi (T := [10]) hI.drew ?_
   intro Sx hY hZ
   have hI := hI.drew
   refine Vl 0 rfl (Vx 1 rfl (Vl 2 rfl (Vm 3 rfl (Vf 4 5 rfl (Vd 5 (.int .i64 _) rfl (fun W hW => (hY W hW).c0 gnA_5) ?_)))))
   refine Wt 6 rfl (fun W hW => have hI := hY W hW; (rConv_u8s rfl yy3 yy5 rfl (by omega))) ?_
   refine Vm 7 rfl (Vf 8 6 rfl ?_)
   refine Wt 9 rfl (fun W hW => have hI := hY W hW; (rIdxAj (i := i) rfl yy156 (by kernel_rfl) rfl rfl rfl hil)) ?_
   refine WT_A (by kernel_rfl) ?_
   clear hZ hY
   refine T2 10 rfl ?_
   refine WL_st0 (u := .int .u8 _) (j := 6 + i) (cs' := gnA (mixF (i + 1)) 12 nilT) hI rfl rfl rfl rfl rfl rfl (by kernel_rfl) rfl (by rw [gnA_size]; exact Nat.ble_eq_true_of_le (by omega)) (by rw [← gnA_mix hil, hm]) ?_
   intro w hI
   refine Wn ?_
   refine WA_end (by kernel_rfl) ?_
   refine Wr (Vv rfl (V0 rfl (Wn ?_)))
   exact ⟨256 - (i + 1), by omega, i + 1, rfl, by omega, ⟨rfl, rfl, by rw [hn]; rfl, rfl, rfl, trivial⟩, hI⟩
  have hm : mpN i = cnK i := by unfold mpN; rw [if_neg hz]
  have hn : cnK (i + 1) = cnK i + 1 := by rw [cnK]; omega
  refine Wq (V0 rfl (Vw rfl (Wn (Wc false rfl (Wq (V9 rfl (V0 rfl (V0 rfl (Vb rfl (V7 6 rfl ?_))))))))))
  refine Wv rfl (rIdxAj (i := i) rfl yy156 (by kernel_rfl) rfl rfl rfl hil) ?_
  refine WL_st0 (u := .int .u8 _) (j := 6 + i) (cs' := gnA (mixF (i + 1)) 12 nilT) hI rfl rfl rfl rfl rfl rfl (by kernel_rfl) rfl (by rw [gnA_size]; exact Nat.ble_eq_true_of_le (by omega)) (by rw [← gnA_mix hil, hm]) ?_
  intro w hI
  refine Wn (Wr (V0 rfl ?_))
  refine Wv rfl (rInc8 rfl rfl rfl (by omega)) ?_
  refine Vc rfl (Wn (Wr (Vv rfl (V0 rfl (Wn ?_)))))
  exact ⟨256 - (i + 1), by omega, i + 1, rfl, by omega, ⟨rfl, rfl, by rw [hn]; rfl, rfl, rfl, trivial⟩, hI⟩
 clear hI
 rintro ρ w ⟨hH, hI⟩
 obtain ⟨σ, rfl⟩ := hH.open
 refine Wq (V9 rfl (V9 rfl (Vb rfl (V7 5 rfl (V5 (.int .i64 _) rfl (hI.c0 gnA_5) ?_)))))
 refine WL_mk (n := 12) (z := nilP) (by_ := 8) hI rfl rfl rfl rfl rfl rfl yy347 (by kernel_rfl) rfl (by omega) (by omega) ?_
 rintro tb w - - hI
 refine Vb rfl (V7 0 rfl (V7 4 rfl ?_))
 refine WL_st1 (u := sl12 tb) (j := 4) hI rfl rfl rfl rfl rfl rfl (by kernel_rfl) rfl (by rw [gnA_size]; rfl) gnA_set4 ?_
 intro w hI
 refine Wn ?_
 have hI := hI.perm (List.Perm.swap _ _ _)
 have hRoot : RootAt w R tb := ⟨⟨hI.c0 gnA_5, fun b => by rw [hI.c0 (gnA_at b.toNat_lt), show mixF 256 b.toNat = mpN b.toNat by unfold mixF; rw [if_pos b.toNat_lt], mpN_mpF]⟩, hI.c0 gnA_2, hI.c0 gnA_4⟩
 have hRS : ¬ DLs [B tb 346 (rep nilP 12)] R := fun ⟨e, he, hk⟩ => by
  rw [List.mem_singleton.1 he] at hk
  exact hI.disj (i := 0) (j := 1) rfl rfl (by omega) R rfl hk
 have hc' : ∀ (j : Nat) x, escR[j]? = some x → w.cell? ⟨g, o + j, none⟩ = some (strV x) := fun j x hx => hI.oldp (hc j x hx)
 have hgt : ¬ DLs [B tb 346 (rep nilP 12)] g := fun ⟨e, he, hk⟩ => by
  rw [List.mem_singleton.1 he] at hk
  have hk : g = tb := hk
  have h1 := (hI.own (B tb 346 (rep nilP 12)) (by simp) tb rfl).resolve_left id
  have h2 := World.block_lt_of_cell? w0 _ (hc 0 _ rfl)
  have h2 : g < w0.heap.size := h2
  omega
 have hK : TS (DLs [B tb 346 (rep nilP 12)]) w tb w 0 := Inv.fromB (X := [_]) hI
 refine Wx (fun ρ w' => Has ρ [(3, at0 R)] ∧ TS (DLs [B tb 346 (rep nilP 12)]) w tb w' 5) ?_ ?_
 ·refine Wq (Vc rfl (Wn (Wb ?_)))
  refine Wl (fun mu ρ w' => ∃ (k : Nat) (z : Int), mu = 5 - k ∧ k ≤ 5 ∧ z = 2 * (k : Int) ∧ Has ρ [(12, .int .i64 z), (3, at0 R), (0, .slice (some ⟨g, o, none⟩) 10 c)] ∧ TS (DLs [B tb 346 (rep nilP 12)]) w tb w' k) 5
   ⟨0, 0, rfl, by omega, rfl, ⟨rfl, rfl, rfl, trivial⟩, hK⟩ ?_
  rintro mu ρ w' ⟨k, z, rfl, hk, hz, hH, hT⟩
  obtain ⟨m, rfl⟩ : ∃ m : Nat, z = (m : Int) := ⟨2 * k, by omega⟩
  obtain ⟨σ, rfl⟩ := hH.open
  have hcw : ∀ (j : Nat) x, escR[j]? = some x → w'.cell? ⟨g, o + j, none⟩ = some (strV x) := fun j x hx => hT.chg.cellC (hc' j x hx) hgt
  have hI5 := hI
  clear hI
  have hI := Inv.start (fun _ => False) w'
  by_cases hk5 : k < 5
  rotate_left
  ·obtain rfl : k = 5 := by omega
   refine Ws (Wq (V0 rfl (Vi rfl (Vs rfl yy72 rfl (Vr rfl (Wn (Wc false rfl ?_)))))))
   refine WE ?_
   exact ⟨⟨rfl, trivial⟩, hT⟩
  obtain rfl : m = 2 * k := by omega
  obtain ⟨h1, h2, h3⟩ := escR_at k hk5
  have hc1 := hcw _ _ h1
  have hc2 := hcw _ _ h2
  refine Ws (Wq (V0 rfl (Vi rfl (Vs rfl yy72 rfl (Vt rfl (Wn (Wc true rfl (Wk (Ws (Wb (Wd (by kernel_rfl) ?_)))))))))))
  refine Wi (T := [17]) hI.drew ?_
  intro Sx hY hZ
  have hI := hI.drew
  refine Vl 0 rfl (Vm 1 rfl (Vf 2 0 rfl (Ta 3 rfl (Vx 4 rfl ?_))))
  refine Wt 5 rfl (fun W hW => have hI := hY W hW; (by exact rIdx1 rfl yy72 (by kernel_rfl) rfl rfl (by omega))) ?_
  refine Vd 6 (.string _) rfl (fun W hW => (hY W hW).oldp hc1) (Ta 7 rfl (Vx 8 rfl ?_))
  refine Wt 9 rfl (fun W hW => have hI := hY W hW; (by exact rInc rfl rfl rfl (by omega))) ?_
  refine Wt 10 rfl (fun W hW => have hI := hY W hW; (by exact rIdx1 rfl yy72 (by kernel_rfl) rfl rfl (by omega))) ?_
  refine Vd 11 (.string _) rfl (fun W hW => (hY W hW).oldp hc2) (Ta 12 rfl (Ui 13 rfl yy72 rfl (Vx 14 rfl ?_)))
  refine Wt 15 rfl (fun W hW => have hI := hY W hW; (rSubNN (a := 10) (b := 2 * k) rfl rfl rfl (by omega) (by omega))) ?_
  refine Vl 16 rfl ?_
  refine WT_A (by kernel_rfl) ?_
  clear hZ hY
  refine T2 17 rfl ?_
  refine Va [.pointer _, .string _, .string _, .int .i64 _, .pointer _] rfl func192 rfl ?_
  refine (ts_step hRS hRoot k hk5 (TS.pure hI.pu hT)).mono ?_
  rintro e w1 ⟨rfl, hT'⟩
  refine rV ?_
  refine Wn ?_
  refine WA_end (by kernel_rfl) ?_
  refine Wr (V0 rfl (Ud rfl (Vc rfl (Wn ?_))))
  exact ⟨5 - (k + 1), by omega, k + 1, _, rfl, by omega, by omega, ⟨rfl, rfl, rfl, trivial⟩, hT'⟩
 rintro ρ w' ⟨hH, hT⟩
 obtain ⟨σ, rfl⟩ := hH.open
 refine Wq (V9 rfl (Tm rfl (Wn ?_)))
 exact WR (r1_ 2 rfl ⟨R, tb, w, rfl, hRoot, hI, hT⟩)
theorem haspl_any (p r : List UInt8) (w0 : World) : Cq 156 #[strV (p ++ r), strV p] w0 fun e w' => e = .returned (.bool true) ∧ Pure w0 w' := by
 have hI := Inv.start (fun _ => False) w0
 have hl : (p ++ r).length = p.length + r.length := List.length_append
 have ht : (p ++ r).take p.length = p := List.take_left
 refine Vn func156 rfl ?_
 refine Wq (V8 rfl (Wn (Wq (Vh rfl (T0 rfl yy9 rfl (Vh rfl (T0 rfl yy9 rfl (To rfl (V6 rfl (Vh rfl (Vh rfl ?_)))))))))))
 refine T0 rfl yy9 rfl ?_
 refine Wv rfl (rStrSlTo (b := p.length) rfl yy9 rfl rfl (by omega)) ?_
 refine Vh rfl ?_
 refine Wv rfl (by exact rStrEqT rfl rfl rfl (by assumption)) ?_
 refine Vk rfl (V8 rfl (Wn ?_))
 exact WR (r1_ 4 rfl ⟨rfl, hI.pu⟩)
theorem hasp_any (p r : List UInt8) (w0 : World) : Cq 213 #[strV (p ++ r), strV p] w0 fun e w' => e = .returned (.bool true) ∧ Pure w0 w' := by
 have hI := Inv.start (fun _ => False) w0
 refine Vn func213 rfl ?_
 refine Wq (V8 rfl (Wn (Wq (Vh rfl (Vh rfl (Va [.string _, .string _] rfl func156 rfl ?_))))))
 refine (haspl_any p r _).mono (okP hI fun w1 hp hI => ?_)
 refine V8 rfl (Wn ?_)
 exact WR (r1_ 4 rfl ⟨rfl, hI.pu⟩)
structure NdAt (w : World) (n : Nat) (v : List UInt8) (p : Int) (pre : List UInt8) (nx : Option Addr) (tb : Value) : Prop where
 val : w.cell? ⟨n, 0, none⟩ = some (strV v)
 pri : w.cell? ⟨n, 1, none⟩ = some (.int .i64 p)
 pre : w.cell? ⟨n, 2, none⟩ = some (strV pre)
 nxt : w.cell? ⟨n, 3, none⟩ = some (.pointer nx)
 tab : w.cell? ⟨n, 4, none⟩ = some tb
inductive LkP (w : World) : Nat → Nat → List UInt8 → List UInt8 → Nat → Prop
 | leaf {n : Nat} {v s : List UInt8} {p : Int} : 0 < p → NdAt w n v p [] none nilT → LkP w 0 n s v 0
 | tab {d n n' t k : Nat} {v s : List UInt8} {c : UInt8} : NdAt w n [] 0 [] none (sl12 t) → mpF c < 12 → w.cell? ⟨t, mpF c, none⟩ = some (at0 n') → LkP w d n' s v k → LkP w (d + 1) n (c :: s) v (k + 1)
 | pre {d n n' k : Nat} {v s : List UInt8} {c : UInt8} {q : List UInt8} : NdAt w n [] 0 (c :: q) (some ⟨n', 0, none⟩) nilT → LkP w d n' s v k → LkP w (d + 1) n ((c :: q) ++ s) v (k + (c :: q).length)
theorem LkP.le {w : World} {d n k : Nat} {s v : List UInt8} (h : LkP w d n s v k) : k ≤ s.length := by
 induction h with
 | leaf _ _ => exact Nat.zero_le _
 | tab _ _ _ _ ih => rw [List.length_cons]; omega
 | pre _ _ ih => rw [List.length_append]; omega
set_option maxRecDepth 4000 in
theorem lookup_any (R : Nat) (s v : List UInt8) (d k : Nat) (w0 : World) (hR : RepAt w0 R) (hs : s.length ≤ 100000) (hd : 0 < d) (hP : LkP w0 d R s v k) :
  Cq 269 #[at0 R, strV s, .bool false] w0 fun e w' => e = .returned (.tuple #[strV v, .int .i64 (k : Int), .bool true]) ∧ Pure w0 w' := by
 have hI := Inv.start (fun _ => False) w0
 have hks := hP.le
 refine Vn func269 rfl ?_
 refine Wq (T4 rfl (Vc rfl (V8 rfl (Wn (Wq (Vc rfl (Wn (Wq (V9 rfl (Vb rfl ?_))))))))))
 refine V7 0 rfl (Tm rfl (Wn (Wq (Vc rfl (Wn ?_)))))
 refine Wx (fun ρ w => Has ρ [(6, strV v), (7, .int .i64 (k : Int)), (8, .bool true)] ∧ Inv NF w0 w []) ?_ ?_
 ·refine Wb ?_
  refine Wl (fun mu ρ w => ∃ (n m kk : Nat) (s' : List UInt8), m + kk = k ∧ LkP w0 mu n s' v kk ∧ Has ρ [(11, .int .i64 (m : Int)), (10, at0 n), (9, .int .i64 0), (8, .bool false), (7, .int .i64 0), (6, strV []), (2, .bool false), (1, strV s'), (0, at0 R)] ∧ Inv NF w0 w []) d
   ⟨R, 0, k, s, by omega, hP, ⟨rfl, rfl, rfl, rfl, rfl, rfl, rfl, rfl, rfl, trivial⟩, hI⟩ ?_
  clear hI
  rintro mu ρ w ⟨n, m, kk, s', hmk, hP', hH, hI⟩
  obtain ⟨σ, rfl⟩ := hH.open
  cases hP' with
  | @leaf _ _ _ p hp hN =>
   have c0 := hN.val
   have c1 := hN.pri
   have c2 := hN.pre
   have c4 := hN.tab
   obtain rfl : m = k := by omega
   refine Ws (Wq (V9 rfl ?_))
   refine Wv rfl (rPtrNe rfl yy346 rfl rfl) ?_
   refine Wn (Wc true rfl (Wk (Wb (Ws (Wq (V9 rfl (Vb rfl (V7 1 rfl (V5 (.int .i64 _) rfl (hI.oldp c1) (V0 rfl (Tq rfl (V6 rfl ?_))))))))))))
   refine V6 rfl (V6 rfl (V4 rfl (V4 rfl (V4 rfl (V4 rfl (V4 rfl (Ve rfl (Ti rfl (Vk rfl (Wn (Wc true rfl (Ws (Wr ?_)))))))))))))
   refine V9 rfl (Vb rfl (V7 1 rfl (V5 (.int .i64 _) rfl (hI.oldp c1) (Vc rfl (Wn (Wq (V9 rfl (Vb rfl (V7 0 rfl (V5 (.string _) rfl (hI.oldp c0) (T4 rfl (Wn ?_))))))))))))
   refine Wq (V0 rfl (Vc rfl (Wn (Wr (V8 rfl (Wn ?_))))))
   by_cases he : s' = []
   ·subst he
    refine Ws (Wq (Vh rfl (Uj rfl (Wn (Wc true rfl ?_)))))
    refine WE ?_
    exact ⟨⟨rfl, rfl, rfl, trivial⟩, hI⟩
   refine Ws (Wq (Vh rfl (U3 rfl ?_)))
   refine Wn (Wc false rfl (Wk (Wq (V9 rfl (Vb rfl (V7 4 rfl (V5 (.slice _ _ _) rfl (hI.oldp c4) ?_)))))))
   refine Wv rfl (rNeSlNT rfl yy347 rfl) ?_
   refine Wn (Wc false rfl (Wq (V9 rfl (Vb rfl (V7 2 rfl (V5 (.string _) rfl (hI.oldp c2) ?_))))))
   refine Wv rfl (by exact rStrNeF rfl rfl rfl (by decide)) ?_
   refine V6 rfl (V4 rfl (V4 rfl (V4 rfl (V4 rfl (V4 rfl (V4 rfl (Ve rfl (Wn (Wc false rfl ?_)))))))))
   refine WE ?_
   exact ⟨⟨rfl, rfl, rfl, trivial⟩, hI⟩
  | @tab d' _ n' t k' _ s2 c hN hc hcell hP2 =>
   have c1 := hN.pri
   have c4 := hN.tab
   have hcR := hR.mp c
   have hcS := hR.sz
   refine Ws (Wq (V9 rfl ?_))
   refine Wv rfl (rPtrNe rfl yy346 rfl rfl) ?_
   refine Wn (Wc true rfl (Wk (Wb (Ws (Wq (V9 rfl (Vb rfl (V7 1 rfl (V5 (.int .i64 _) rfl (hI.oldp c1) (V0 rfl (Tc rfl (V6 rfl ?_))))))))))))
   refine V4 rfl (V4 rfl (V4 rfl (V4 rfl (V4 rfl (V4 rfl (V4 rfl (V4 rfl (V4 rfl (Ve rfl (Wn (Wc false rfl (Wk (Ws ?_)))))))))))))
   refine Wq (Vh rfl ?_)
   refine Wv rfl (by exact rStrEq rfl rfl rfl) ?_
   refine Wn (Wc false rfl (Wk (Wq (V9 rfl (Vb rfl (V7 4 rfl (V5 (.slice _ _ _) rfl (hI.oldp c4) ?_)))))))
   refine Wv rfl (rNeSlNF rfl yy347 rfl) ?_
   refine Wn (Wc true rfl (Ws (Wd (by kernel_rfl) ?_)))
   refine Wi (T := []) hI.drew ?_
   intro Sx hY hZ
   have hI := hI.drew
   refine Vl 0 rfl (U6 1 rfl (Uq 2 c 0 rfl yy9 rfl (Vm 3 rfl (Vf 4 6 rfl ?_))))
   refine Wt 5 rfl (fun W hW => have hI := hY W hW; (rIdxAj (i := c.toNat) rfl yy156 (by kernel_rfl) rfl rfl rfl c.toNat_lt)) ?_
   refine Vd 6 (.int .u8 _) rfl (fun W hW => (hY W hW).oldp hcR) (Ty 7 rfl (We (by kernel_rfl) (Ws (Wq (V0 rfl ?_)))))
   refine Wv rfl (rConv_i64 rfl yy5 yy3 rfl (by omega)) ?_
   refine V9 rfl (Vb rfl (V7 5 rfl (V5 (.int .i64 _) rfl (hI.oldp hcS) (Vw rfl (Wn (Wc false rfl (Wk (Wq (V9 rfl (Vb rfl (V7 4 rfl (V5 (.slice _ _ _) rfl (hI.oldp c4) ?_))))))))))))
   refine V0 rfl ?_
   refine Wv rfl (rIdxS0 (i := mpF c) rfl yy347 (by kernel_rfl) rfl rfl hc) ?_
   refine V5 (at0 _) rfl (hI.oldp hcell) (Tm rfl (Wn (Wq (Vh rfl ?_))))
   refine Wv rfl (rStrSlFrom (a := 1) rfl yy9 rfl rfl (Nat.succ_le_succ (Nat.zero_le _))) ?_
   refine T4 rfl (Wn (Wr (V0 rfl (Vv rfl (Vc rfl (Wn ?_))))))
   exact ⟨d', by omega, n', m + 1, k', s2, by omega, hP2, ⟨rfl, rfl, rfl, rfl, rfl, rfl, rfl, rfl, rfl, trivial⟩, hI⟩
  | @pre d' _ n' k' _ s2 c q hN hP2 =>
   have c1 := hN.pri
   have c2 := hN.pre
   have c3 := hN.nxt
   have c4 := hN.tab
   have hl : (c :: q ++ s2).length = (c :: q).length + s2.length := List.length_append
   refine Ws (Wq (V9 rfl ?_))
   refine Wv rfl (rPtrNe rfl yy346 rfl rfl) ?_
   refine Wn (Wc true rfl (Wk (Wb (Ws (Wq (V9 rfl (Vb rfl (V7 1 rfl (V5 (.int .i64 _) rfl (hI.oldp c1) (V0 rfl (Tc rfl (V6 rfl ?_))))))))))))
   refine V4 rfl (V4 rfl (V4 rfl (V4 rfl (V4 rfl (V4 rfl (V4 rfl (V4 rfl (V4 rfl (Ve rfl (Wn (Wc false rfl (Wk (Ws ?_)))))))))))))
   refine Wq (Vh rfl ?_)
   refine Wv rfl (by exact rStrEq rfl rfl rfl) ?_
   refine Wn (Wc false rfl (Wk (Wq (V9 rfl (Vb rfl (V7 4 rfl (V5 (.slice _ _ _) rfl (hI.oldp c4) ?_)))))))
   refine Wv rfl (rNeSlNT rfl yy347 rfl) ?_
   refine Wn (Wc false rfl (Wq (V9 rfl (Vb rfl (V7 2 rfl (V5 (.string _) rfl (hI.oldp c2) ?_))))))
   refine Wv rfl (by exact rStrNe rfl rfl rfl) ?_
   refine V6 rfl (Vh rfl (V9 rfl (Vb rfl (V7 2 rfl (V5 (.string _) rfl (hI.oldp c2) (Va [.string _, .string _] rfl func213 rfl ?_))))))
   refine (hasp_any (c :: q) s2 _).mono (okP hI fun w1 hp hI => ?_)
   refine Vk rfl (Wn (Wc true rfl (Wq (V0 rfl (V9 rfl (Vb rfl (V7 2 rfl (V5 (.string _) rfl (hI.oldp c2) (T0 rfl yy9 rfl ?_)))))))))
   refine Wv rfl (rAddNN rfl rfl rfl (by omega)) ?_
   refine Vc rfl (Wn (Wq (Vh rfl (V9 rfl (Vb rfl (V7 2 rfl (V5 (.string _) rfl (hI.oldp c2) (T0 rfl yy9 rfl ?_))))))))
   refine Wv rfl (rStrSlFrom (a := (c :: q).length) rfl yy9 rfl rfl (by omega)) ?_
   refine T4 rfl (Wn (Wr (V9 rfl (Vb rfl (V7 3 rfl (V5 (.pointer _) rfl (hI.oldp c3) (Tm rfl (Wn ?_))))))))
   exact ⟨d', by omega, n', m + (c :: q).length, k', s2, by omega, hP2, ⟨rfl, rfl, rfl, rfl, rfl, rfl, rfl, by show strV ((c :: q ++ s2).drop (c :: q).length) = strV s2; rw [List.drop_left], rfl, trivial⟩, hI⟩
 clear hI
 rintro ρ w ⟨hH, hI⟩
 obtain ⟨σ, rfl⟩ := hH.open
 refine WR ?_
 exact ret3 6 7 8 (.inr rfl) rfl ⟨rfl, hI.pu⟩
end Go.Proofs.YtlkobbighkiojaaGreatDoor
