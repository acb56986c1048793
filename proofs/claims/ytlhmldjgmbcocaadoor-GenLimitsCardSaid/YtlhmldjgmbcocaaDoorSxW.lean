/- SxW: a slice that is a window on a block of its own: cut ahead, appended to. Nothing of the program. -/
import Derived.Test.YtlhmldjgmbcocaaDoorSxD
import Derived.Deep.Upon
namespace Go.Proofs.YtlhmldjgmbcocaaDoor
open Go Go.RowKit
set_option linter.unusedVariables false
set_option linter.unusedSectionVars false
def WinΦ (e size : Nat) (A : Option Addr) (n c : Nat) (xs : List Value) (w : World) : Prop :=
  xs.length = n * size ∧ n ≤ c ∧ c ≤ 9223372036854775807 ∧ ((A = none ∧ c = 0) ∨ ∃ (g o : Nat) (cur : Array Value), A = some ⟨g, o, none⟩ ∧ Blk w g e cur ∧ o + c * size ≤ cur.size ∧ ∀ j u, xs[j]? = some u → cur[o + j]? = some u)
def Win (e size : Nat) (A : Option Addr) (n c : Nat) (xs : List Value) : Ent := ⟨fun k => A.map (·.block) = some k, WinΦ e size A n c xs⟩
theorem Win.ok {e size n c : Nat} {A : Option Addr} {xs : List Value} {w : World} (h : WinΦ e size A n c xs w) : (Win e size A n c xs).ok w := by
  refine Ent.mk_ok h (fun k hk => ?_) (fun S w1 w2 hc hS h1 => ?_)
  · rcases h.2.2.2 with ⟨rfl, _⟩ | ⟨g, o, cur, rfl, hb, _⟩
    · simp at hk
    · simp at hk; subst hk; exact Blk.lt hb
  · refine ⟨h1.1, h1.2.1, h1.2.2.1, ?_⟩
    rcases h1.2.2.2 with h2 | ⟨g, o, cur, rfl, hb, h3⟩
    · exact .inl h2
    · exact .inr ⟨g, o, cur, rfl, Blk.chg hb hc (hS g rfl), h3⟩
section
variable {P : Program} {N : Nat} {ops : Array Oper} {Q : XPost} {rest : List Oper} {ρ : Env} {o : Oper} {w0 w : World} {S : Nat → Prop} {H : List Ent} {d t : Nat}
theorem Inv.winOf {base e size n c : Nat} {A : Option Addr} {xs : List Value} (hI : Inv S w0 w (Row base e size A n c xs :: H)) : Inv S w0 w (Win e size A n c xs :: H) := by
  have h1 : w.ownsRow base e size (.slice A n c) n xs := (hI.ok _ (List.mem_cons_self ..)).1
  refine hI.u0 (e' := Win e size A n c xs) (Chg.refl _ _) (Win.ok ?_) (fun k hk => .inl hk)
  rcases h1.2 with ⟨hv, h0⟩ | ⟨g, cap, cur, hv, hb, hh, hnc, hcm, hcs, htake⟩
  · injection hv with q1 q2 q3
    subst q1 q2 q3
    exact ⟨h1.1, Nat.le_refl _, by omega, .inl ⟨rfl, rfl⟩⟩
  · injection hv with q1 q2 q3
    subst q1 q3
    refine ⟨h1.1, hnc, hcm, .inr ⟨g, 0, cur, rfl, hh, by omega, fun j u hj => ?_⟩⟩
    rw [← htake] at hj
    have := (List.getElem?_eq_some_iff.1 hj)
    obtain ⟨hl, he⟩ := this
    rw [List.getElem_take] at he
    rw [Nat.zero_add]
    rw [List.length_take] at hl
    rw [Array.getElem?_eq_getElem (by have : j < cur.toList.length := by omega
                                      simpa using this)]
    rw [← he]; simp
theorem Inv.winGet {e n c : Nat} {A : Option Addr} {xs : List Value} {j : Nat} {u : Value} (hI : Inv S w0 w (Win e 1 A n c xs :: H)) (hj : xs[j]? = some u) : ∃ g o, A = some ⟨g, o, none⟩ ∧ w.cell? ⟨g, o + j, none⟩ = some u := by
  obtain ⟨h1, h2, h3, h4⟩ := (hI.ok _ (List.mem_cons_self ..)).1
  have hl := (List.getElem?_eq_some_iff.1 hj).1
  rcases h4 with ⟨_, rfl⟩ | ⟨g, o, cur, rfl, hb, hc, hx⟩
  · omega
  · exact ⟨g, o, rfl, by rw [hb.cell]; exact hx j u hj⟩
theorem Inv.winTail {e n c : Nat} {A : Option Addr} {x : Value} {xs : List Value} (hI : Inv S w0 w (Win e 1 A (n + 1) c (x :: xs) :: H)) : Inv S w0 w (Win e 1 (if c = 1 then A else A.map (·.add (1 * 1))) n (c - 1) xs :: H) := by
  obtain ⟨h1, h2, h3, h4⟩ := (hI.ok _ (List.mem_cons_self ..)).1
  rcases h4 with ⟨_, rfl⟩ | ⟨g, o, cur, rfl, hb, hc, hx⟩
  · omega
  · refine hI.u0 (Chg.refl _ _) (Win.ok ⟨by simpa using h1, by omega, by omega, .inr ?_⟩) (fun k hk => .inl ?_)
    · by_cases h : c = 1
      · rw [if_pos h]
        refine ⟨g, o, cur, rfl, hb, by omega, fun j u hj => ?_⟩
        have := (List.getElem?_eq_some_iff.1 hj).1
        have : xs.length + 1 = (n + 1) * 1 := by simpa using h1
        omega
      · rw [if_neg h]
        refine ⟨g, o + 1, cur, by simp [Addr.add_lit], hb, by omega, fun j u hj => ?_⟩
        have := hx (j + 1) u (by simpa using hj)
        rw [← this]; congr 1; omega
    · have hk : ((if c = 1 then some (⟨g, o, none⟩ : Addr) else (some (⟨g, o, none⟩ : Addr)).map (·.add (1 * 1)))).map (·.block) = some k := hk
      show (some (⟨g, o, none⟩ : Addr)).map (·.block) = some k
      rw [← hk]
      split <;> simp [Addr.add_lit]
theorem pure_drew (w : World) (o : Obj) : Pure w (w.drew.alloc o) := by
  have h : Chg (fun _ => False) w w.drew := ⟨rfl, rfl, rfl, Nat.le_refl _, fun k hk _ => rfl⟩
  exact (h.toPure).trans ((Pure.refl _).alloc _)
theorem WL_appW {u : TypeId} {x y : Operand} {e size n c m by_ : Nat} {A : Option Addr} {xs news : List Value} {z : Value} (yv : Value) (hI : Inv S w0 w (Win e size A n c xs :: H)) (hw : wantedR ops ρ o = true) (hd : o.dst = some d) (hN : Nat.blt d N = true)
    (ho : o.op = .call { callee := .builtin .append, args := #[x, y], argTypes := #[t, u] }) (hx : ev ρ x = .slice A n c) (hy : ev ρ y = yv) (ht : P.underlying t = some (.slice e))
    (hi0 : (P.info? e).map (fun i => (i.zero, i.size, i.bytes)) = some (some z, size, by_)) (hz1 : z.cells.size = size) (hsz : 0 < size) (hs : Src P size u yv m news w)
    (h63 : n + m ≤ 9223372036854775807) (hby : (n + m) * by_ ≤ 140737488355328)
    (h : ∀ A' c' w', n + m ≤ c' → c' ≤ 9223372036854775807 → Inv S w0 w' (Win e size A' (n + m) c' (xs ++ news) :: H) → WL P N ops Q rest (upd ρ d (.slice A' (n + m) c')) w') : WL P N ops Q (o :: rest) ρ w := by
  cases hp : P.info? e with
  | none => simp [hp] at hi0
  | some q =>
    simp only [hp, Option.map_some, Option.some.injEq, Prod.mk.injEq] at hi0
    obtain ⟨q1, q2, q3⟩ := hi0
    subst q2 q3
    obtain ⟨h1, h2, h3, h4⟩ := (hI.ok _ (List.mem_cons_self ..)).1
    have hnl := hs.newsLen
    have hcont : ∀ (A' : Option Addr) (c' : Nat) (w' : World), (Builtin.append_ #[t, u] o.type #[.slice A n c, yv]).run P w = .ok (.slice A' (n + m) c') w' → n + m ≤ c' → c' ≤ 9223372036854775807 → Inv S w0 w' (Win e q.size A' (n + m) c' (xs ++ news) :: H) → WL P N ops Q (o :: rest) ρ w := fun A' c' w' hrun hc1 hc2 hI' =>
      WL_eff hw hd hN (v := .slice A' (n + m) c') (w' := w') (by simp [execOp, ho, resolve, invoke, builtin, hx, hy, hrun]) (h A' c' w' hc1 hc2 hI')
    have hlen : (xs ++ news).length = (n + m) * q.size := by rw [List.length_append, h1, hnl, Nat.add_mul]
    by_cases hroom : n + m ≤ c
    · rcases h4 with ⟨rfl, rfl⟩ | ⟨g, of, cur, rfl, hb, hcs, hxs⟩
      · have hm0 : m = 0 := by omega
        have hn0 : n = 0 := by omega
        subst hm0 hn0
        have hne : news = [] := List.eq_nil_of_length_eq_zero (by simpa using hnl)
        subst hne
        refine hcont none 0 w (run_append_nothing w t u o.type e q ht hp none 0 0 (Nat.le_refl _) yv hs) (by omega) (by omega) ?_
        rw [List.append_nil]; exact hI
      · have hsum : n * q.size + m * q.size ≤ c * q.size := by rw [← Nat.add_mul]; exact Nat.mul_le_mul_right _ hroom
        have hB2 := hb.setCells news (of + n * q.size)
        refine hcont (some ⟨g, of, none⟩) c (w.setCells g (of + n * q.size) news) (run_append_room_src w t u o.type e q ht hp g of n c yv m news hs hroom (fun j hj => ?_) (fun j hj => hb.frozen _)) (by omega) h3 ?_
        · rw [hb.cell, Array.getElem?_eq_getElem (by omega)]; rfl
        · refine hI.u0 (e' := Win e q.size (some ⟨g, of, none⟩) (n + m) c (xs ++ news)) (Chg.setCells (S := (Win e q.size (some ⟨g, of, none⟩) n c xs).D) (b := g) (.inl rfl) _ _ (Chg.refl _ _)) (Win.ok ⟨hlen, hroom, h3, .inr ⟨g, of, _, rfl, hB2, by rw [splice_size]; exact hcs, fun j u hj => ?_⟩⟩) (fun k hk => .inl hk)
          rw [splice_get _ _ _ _ (by omega)]
          by_cases hjn : j < n * q.size
          · rw [if_neg (by omega)]
            rw [List.getElem?_append_left (by omega)] at hj
            exact hxs j u hj
          · have hjl := (List.getElem?_eq_some_iff.1 hj).1
            rw [if_pos (by rw [hlen, Nat.add_mul] at hjl; omega)]
            rw [List.getElem?_append_right (by omega), h1] at hj
            rw [← hj]; congr 1; omega
    · have hold : (Builtin.firstCells q.size n (.slice A n c)).run P w.drew = .ok xs.toArray w.drew := by
        rcases h4 with ⟨rfl, rfl⟩ | ⟨g, of, cur, rfl, hb, hcs, hxs⟩
        · have hn0 : n = 0 := by omega
          subst hn0
          have hne : xs = [] := List.eq_nil_of_length_eq_zero (by simpa using h1)
          subst hne
          exact run_firstCells_none _ _ _ _ _
        · refine run_firstCells_some w.drew q.size n ⟨g, of, none⟩ n c xs h1 fun j v hj => ?_
          rw [Addr.add_lit]
          have hb' : Blk w.drew g e cur := hb
          rw [hb'.cell]
          exact hxs j v hj
      have hrun := run_append_grow_src (P := P) w t u o.type e q z ht hp q1 A n c xs hold yv m news hs (by omega) (by omega) (growslice_fits (by omega) hby)
      have hge := grownCap_ge w (n + m) c e
      have hcm := grownCap_le_maxLen w (n + m) c e (by simpa [maxLen] using h63)
      refine hcont _ _ _ hrun hge (by simpa [maxLen] using hcm) ?_
      have hnew : Blk (w.drew.alloc (.cells ((xs ++ news).toArray ++ Builtin.zeroCells z.cells (grownCap w (n + m) c e - (n + m))) e)) w.heap.size e ((xs ++ news).toArray ++ Builtin.zeroCells z.cells (grownCap w (n + m) c e - (n + m))) := heap_alloc_new w.drew _
      refine hI.d0.fresh (pure_drew w _) (Win.ok ⟨hlen, hge, by simpa [maxLen] using hcm, .inr ⟨w.heap.size, 0, _, rfl, hnew, ?_, fun j u hj => ?_⟩⟩) (fun k hk => ?_)
      · have e1 : (n + m) + (grownCap w (n + m) c e - (n + m)) = grownCap w (n + m) c e := by omega
        rw [Array.size_append, List.size_toArray, hlen, size_zeroCells, hz1, ← Nat.add_mul, e1, Nat.zero_add]
        exact Nat.le_refl _
      · have hjl := (List.getElem?_eq_some_iff.1 hj).1
        rw [Nat.zero_add, Array.getElem?_append_left (by simpa using hjl)]
        simpa using hj
      · have hk : some w.heap.size = some k := hk
        injection hk with hk
        omega
end
end Go.Proofs.YtlhmldjgmbcocaaDoor
