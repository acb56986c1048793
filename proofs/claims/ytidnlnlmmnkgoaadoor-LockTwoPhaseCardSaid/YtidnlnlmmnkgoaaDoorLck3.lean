/- lock: a table of locks: free. -/
import Derived.Test.YtidnlnlmmnkgoaaDoorLck2
namespace Go.Proofs.YtidnlnlmmnkgoaaDoor
open Go.RowKit
set_option linter.unusedVariables false
set_option linter.unusedSimpArgs false
section
variable {P : Program} {ρ : Env} {o : Oper} {w : World} {x y : Operand}
theorem rIxArr {e t i n : Nat} {k : IntKind} {l : List Value} {v : Value} (ho : o.op = .index t x y) (ht : P.underlying t = some (.array n e)) (hp : plainB P e = true) (hs : szB P e 1 = true) (hx : ev ρ x = .agg l.toArray) (hy : ev ρ y = .int k (i : Int)) (hi : i < n) (hl : l[i]? = some v) : Runs P ρ o w v := by
  have hi' : (i : Int) < (n : Int) := by omega
  simp [Runs, execOp, ho, hx, hy, Instr.index, asIntOf, run_underlying ht, run_size hs, part, run_isAgg_plain hp, hi, hl]
end
section
variable {P : Program} {N : Nat} {ops : Array Oper} {Q : XPost} {rest : List Oper} {ρ : Env} {o : Oper} {w0 w : World} {S : Nat → Prop} {H : List Ent} {t kt et : Nat} {x y : Operand} {q : IntKind} {a : Int}
theorem WL_delNil (hw : wantedR ops ρ o = true) (hd : o.dst = none) (ho : o.op = .call { callee := .builtin .delete, args := #[x, y], argTypes := #[t, kt] }) (ht : P.underlying t = some (.map kt et)) (hk : P.underlying kt = some (.int q)) (hx : ev ρ x = .map none) (hy : ev ρ y = .int .i64 a)
    (h : WL P N ops Q rest ρ w) : WL P N ops Q (o :: rest) ρ w := by
  have hc := check_int (P := P) (w := w) (em := true) (a := a) hk
  exact WL_eff0 hw hd (v := .tuple #[]) (w' := w) (by simp [execOp, ho, resolve, invoke, builtin, hx, hy, Builtin.delete_, run_underlying ht, hc]) h
end
theorem hg_del (f : Nat → Nat) (tx : Nat) : (fun j => if j = (tx : Int) then none else hg f j) = hg (fun x => if x = tx then 0 else f x) := by
  funext a
  unfold hg
  by_cases ha : a = (tx : Int)
  · subst ha; simp
  · rw [if_neg ha]
    by_cases h0 : 0 ≤ a
    · have : ¬ a.toNat = tx := by omega
      simp [this]
    · simp [h0]
theorem freeC_any (m g tx : Nat) (f : Nat → Nat) (S : Nat → Prop) (w0 : World) (hc : w0.cell? ⟨g, 0, none⟩ = some (.int .i64 (tx : Int))) (hI : Inv S w0 w0 [MapE m (hg f)]) :
    Calls Tryd.prog 43 #[.map (some m), .pointer (some ⟨g, 0, none⟩)] w0 fun en w' => en = .returned (.tuple #[]) ∧ Inv S w0 w' [MapE m (hg (fun x => if x = tx then 0 else f x))] := by
  refine calls_of_W (N := Tryd.f43.ntmps) Tryd.func43 rfl rfl rfl ?_
  refine W_region ?_
  refine WL_val rfl rfl rfl (by first | exact rMoveM rfl rfl | exact rMove rfl) ?_
  refine WL_val rfl rfl rfl (by first | exact rLd (v := .int .i64 _) rfl (by kernel_rfl) rfl (by first | exact hI.c0 rfl | exact hI.oldp hc | exact hc) | exact rLd rfl (by kernel_rfl) rfl (by first | exact hI.c0 rfl | exact hI.oldp hc | exact hc)) ?_
  refine WL_mapDel 0 rfl hI rfl rfl rfl Tryd.underlying47 Tryd.underlying3 rfl rfl ?_
  clear hI; intro w hI
  refine WL_nil ?_
  simp only [List.set_cons_zero] at hI
  rw [hg_del] at hI
  exact ret0 (.inl rfl) rfl ⟨rfl, hI⟩
theorem freeN_any (g tx : Nat) (w0 : World) (hc : w0.cell? ⟨g, 0, none⟩ = some (.int .i64 (tx : Int))) :
    Calls Tryd.prog 43 #[.map none, .pointer (some ⟨g, 0, none⟩)] w0 fun en w' => en = .returned (.tuple #[]) ∧ Pure w0 w' := by
  have hI := Inv.start (fun _ => False) w0
  refine calls_of_W (N := Tryd.f43.ntmps) Tryd.func43 rfl rfl rfl ?_
  refine W_region ?_
  refine WL_val rfl rfl rfl (by first | exact rMoveM rfl rfl | exact rMove rfl) ?_
  refine WL_val rfl rfl rfl (by first | exact rLd (v := .int .i64 _) rfl (by kernel_rfl) rfl (by first | exact hI.c0 rfl | exact hI.oldp hc | exact hc) | exact rLd rfl (by kernel_rfl) rfl (by first | exact hI.c0 rfl | exact hI.oldp hc | exact hc)) ?_
  refine WL_delNil rfl rfl rfl Tryd.underlying47 Tryd.underlying3 rfl rfl ?_
  refine WL_nil ?_
  exact ret0 (.inl rfl) rfl ⟨rfl, hI.pu⟩
def freeTo (held : Nat → Nat → Nat) (tx j : Nat) : Nat → Nat → Nat := fun k x => if k < j ∧ x = tx then 0 else held k x
theorem freeTo_zero (held : Nat → Nat → Nat) (tx : Nat) : freeTo held tx 0 = held := by funext k x; simp [freeTo]
theorem runC_agg (mo : Nat → Option Nat) (vs : Nat → Value) : ∀ (k : Nat) (u : Value), ((List.range 8).map fun j => Value.map (mo j))[k]? = some u → (runC mo vs)[k]? = some u := fun k u h => by
  have hk : k < 8 := by have := (List.getElem?_eq_some_iff.1 h).1; simpa using this
  rw [runC_get mo vs hk]
  simpa [hk] using h
set_option maxHeartbeats 2000000 in
theorem free_any (b tx : Nat) (mo : Nat → Option Nat) (vs : Nat → Value) (held : Nat → Nat → Nat) (S : Nat → Prop) (w0 : World) (hI : Inv S w0 w0 (tblE b mo vs held)) (hO : HOk held mo) :
    Calls Tryd.prog 37 #[.pointer (some ⟨b, 0, none⟩), .int .i64 (tx : Int)] w0 fun en w' => en = .returned (.tuple #[]) ∧ Inv S w0 w' (tblE b mo vs (freeTo held tx 8)) := by
  unfold tblE at hI
  refine calls_of_W (N := Tryd.f37.ntmps) Tryd.func37 rfl rfl rfl ?_
  refine W_seq ?_
  refine W_region ?_
  refine WL_box (u := .int .i64 _) (vs := #[_]) hI rfl rfl rfl rfl rfl rfl ?_
  clear hI; rintro b3 w - - hI
  refine WL_nil ?_
  refine W_seq ?_
  refine W_region ?_
  refine WL_val rfl rfl rfl (rFunc (l := []) (m := [_]) rfl rfl rfl) ?_
  refine WL_val rfl rfl rfl (by first | exact rAsgnF rfl rfl | exact rAsgn rfl) ?_
  refine WL_nil ?_
  have hagg : ∀ (k : Nat) (u : Value), ((List.range 8).map fun j => Value.map (mo j))[k]? = some u → w.cell? ⟨b, 0 + k, none⟩ = some u := fun k u h => by
    rw [Nat.zero_add]
    exact hI.c1 (runC_agg mo vs k u h)
  refine W_seq ?_
  refine W_region ?_
  refine WL_val rfl rfl rfl (by first | exact rMoveP rfl rfl | exact rMove rfl) ?_
  refine WL_val rfl rfl rfl (rNilChk rfl rfl) ?_
  refine WL_val rfl rfl rfl (by first | exact rFldN (off := 0) rfl (by kernel_rfl) rfl | exact rFld0 rfl (by kernel_rfl) rfl) ?_
  refine WL_val rfl rfl rfl (by first | exact rLdB (n := 8) rfl (by kernel_rfl) (by kernel_rfl) rfl rfl hI.g0 | exact rLdA (n := 8) rfl (by kernel_rfl) (by kernel_rfl) rfl (by rfl) (fun k u hk => hI.oldp (hagg k u hk)) | exact rLdA (n := 8) rfl (by kernel_rfl) (by kernel_rfl) rfl (by rfl) hagg) ?_
  refine WL_val rfl rfl rfl (by first | exact rMoveI rfl rfl | exact rMove rfl) ?_
  refine WL_nil ?_
  refine W_block ?_
  refine W_loop (fun ρ w => ∃ j : Nat, j ≤ 8 ∧ Has ρ [(12, .int .i64 ((j : Nat) : Int)), (11, .agg ((List.range 8).map fun j => Value.map (mo j)).toArray), (4, .func (.func 43) #[] #[.pointer (some ⟨b3, 0, none⟩)])] ∧ Inv S w0 w [B b3 3 #[.int .i64 (tx : Int)], B b 52 (runC mo vs), Many 8 (heldE (freeTo held tx j) mo)]) (fun ρ _ => 8 - cnt (ρ 12))
    ⟨0, by omega, ⟨rfl, rfl, rfl, trivial⟩, by rw [freeTo_zero]; exact hI⟩ ?_
  clear hI hagg
  rintro ρ w ⟨j, hj, hH, hI⟩
  obtain ⟨σ, rfl⟩ := hH.open
  by_cases hj8 : j < 8
  · have hcg : w.cell? ⟨b3, 0, none⟩ = some (.int .i64 (tx : Int)) := hI.c0 rfl
    refine W_seq ?_
    refine W_region ?_
    refine WL_val rfl rfl rfl (by first | exact rLssT rfl rfl rfl (by omega) | exact rLssF rfl rfl rfl (by omega) | exact rLss rfl rfl rfl) ?_
    refine WL_nil ?_
    refine W_seq ?_
    refine W_cond true rfl ?_
    refine W_skip ?_
    refine W_seq ?_
    refine W_block ?_
    have hto : ∀ i, i ≠ j → freeTo held tx (j + 1) i = freeTo held tx j i := fun i hij => by
      funext x
      unfold freeTo
      by_cases hx : x = tx
      · by_cases h1 : i < j
        · rw [if_pos ⟨by omega, hx⟩, if_pos ⟨h1, hx⟩]
        · rw [if_neg (fun h => by omega), if_neg (fun h => h1 h.1)]
      · rw [if_neg (fun h => hx h.2), if_neg (fun h => hx h.2)]
    cases hm : mo j with
    | none =>
      have hl : ((List.range 8).map fun j => Value.map (mo j))[j]? = some (.map none) := by simp [hj8, hm]
      refine W_seq ?_
      refine W_region ?_
      refine WL_val rfl rfl rfl (rIxArr (i := j) rfl Tryd.underlying48 (by kernel_rfl) (by kernel_rfl) rfl rfl hj8 hl) ?_
      refine WL_val rfl rfl rfl (by first | exact rAsgnM rfl rfl | exact rAsgn rfl) ?_
      refine WL_nil ?_
      refine W_region ?_
      refine WL_val rfl rfl rfl (by first | exact rMoveF rfl rfl | exact rMove rfl) ?_
      refine WL_val rfl rfl rfl (by first | exact rMoveM rfl rfl | exact rMove rfl) ?_
      refine WL_call rfl rfl rfl (rCallF (first := []) (cap := [_]) (vs := [.map none, .pointer _]) rfl rfl Tryd.func43 rfl rfl rfl) ?_
      refine (freeN_any b3 tx _ hcg).mono ?_
      rintro e w1 ⟨rfl, hp⟩
      refine ⟨_, rfl, ?_⟩
      replace hI := hI.pure hp
      refine WL_nil ?_
      refine W_region ?_
      refine WL_val rfl rfl rfl (by first | exact rInc rfl rfl rfl (by omega) | exact rAdd rfl rfl rfl (by omega) | exact rAddW rfl rfl rfl) ?_
      refine WL_val rfl rfl rfl (by first | exact rMoveI rfl rfl | exact rMove rfl) ?_
      refine WL_nil ?_
      refine ⟨⟨j + 1, by omega, ⟨rfl, rfl, rfl, trivial⟩, ?_⟩, by show 8 - ((j + 1 : Nat) : Int).toNat < 8 - (j : Int).toNat; omega⟩
      refine (((hI.perm (List.perm_append_comm (l₁ := [_, _]) (l₂ := [_]))).many_congr (es' := heldE (freeTo held tx (j + 1)) mo) (fun i hi => ?_))).perm (List.perm_append_comm (l₁ := [_]) (l₂ := [_, _]))
      by_cases hij : i = j
      · subst hij; unfold heldE; rw [hm]
      · unfold heldE; rw [hto i hij]
    | some m =>
      have hl : ((List.range 8).map fun j => Value.map (mo j))[j]? = some (.map (some m)) := by simp [hj8, hm]
      refine W_seq ?_
      refine W_region ?_
      refine WL_val rfl rfl rfl (rIxArr (i := j) rfl Tryd.underlying48 (by kernel_rfl) (by kernel_rfl) rfl rfl hj8 hl) ?_
      refine WL_val rfl rfl rfl (by first | exact rAsgnM rfl rfl | exact rAsgn rfl) ?_
      refine WL_nil ?_
      have he : heldE (freeTo held tx j) mo j = MapE m (hg (freeTo held tx j j)) := by unfold heldE; rw [hm]
      replace hI := (hI.perm (List.perm_append_comm (l₁ := [_, _]) (l₂ := [_]))).many_out hj8
      rw [he] at hI
      refine W_region ?_
      refine WL_val rfl rfl rfl (by first | exact rMoveF rfl rfl | exact rMove rfl) ?_
      refine WL_val rfl rfl rfl (by first | exact rMoveM rfl rfl | exact rMove rfl) ?_
      refine WL_call rfl rfl rfl (rCallF (first := []) (cap := [_]) (vs := [.map _, .pointer _]) rfl rfl Tryd.func43 rfl rfl rfl) ?_
      refine (freeC_any m b3 tx (freeTo held tx j j) _ _ hcg (Inv.from (l := [_]) hI)).mono ?_
      rintro e w1 ⟨rfl, hJ⟩
      refine ⟨_, rfl, ?_⟩
      replace hI := Inv.turnL (l := [_]) hI hJ
      refine WL_nil ?_
      refine W_region ?_
      refine WL_val rfl rfl rfl (by first | exact rInc rfl rfl rfl (by omega) | exact rAdd rfl rfl rfl (by omega) | exact rAddW rfl rfl rfl) ?_
      refine WL_val rfl rfl rfl (by first | exact rMoveI rfl rfl | exact rMove rfl) ?_
      refine WL_nil ?_
      refine ⟨⟨j + 1, by omega, ⟨rfl, rfl, rfl, trivial⟩, ?_⟩, by show 8 - ((j + 1 : Nat) : Int).toNat < 8 - (j : Int).toNat; omega⟩
      refine ((Inv.many_in hI hj8 (if_pos rfl)).many_congr (es' := heldE (freeTo held tx (j + 1)) mo) (fun i hi => ?_)).perm (List.perm_append_comm (l₁ := [_]) (l₂ := [_, _]))
      by_cases hij : i = j
      · subst hij
        rw [if_pos rfl]
        unfold heldE
        rw [hm]
        show MapE m _ = MapE m _
        congr 2
        funext x
        unfold freeTo
        by_cases hx : x = tx
        · simp [hx]
        · simp [hx]
      · rw [if_neg hij, if_neg hij]
        unfold heldE; rw [hto i hij]
  · obtain rfl : j = 8 := by omega
    refine W_seq ?_
    refine W_region ?_
    refine WL_val rfl rfl rfl (by first | exact rLssT rfl rfl rfl (by omega) | exact rLssF rfl rfl rfl (by omega) | exact rLss rfl rfl rfl) ?_
    refine WL_nil ?_
    refine W_seq ?_
    refine W_cond false rfl ?_
    refine W_exit ?_
    exact ret0 (.inl rfl) rfl ⟨rfl, hI.d0⟩
end Go.Proofs.YtidnlnlmmnkgoaaDoor
