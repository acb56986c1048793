/- slices: Grow, Concat at ints. -/
import Derived.Test.YtgkmlnbnjbpodaaDoorSeeA
import Derived.Lib.AppendZeros
namespace Go.Proofs.YtgkmlnbnjbpodaaDoor
open Go.RowKit
set_option linter.unusedVariables false
set_option linter.unusedSimpArgs false
theorem take_snoc' {α : Type} {l : List α} {k : Nat} {x : α} (h : l[k]? = some x) : l.take (k + 1) = l.take k ++ [x] := by
  rw [List.take_add_one, h]; rfl
theorem natV_len (l : List Nat) : (natV l).length = l.length := by simp [natV]
theorem natV_app (a b : List Nat) : natV (a ++ b) = natV a ++ natV b := by simp [natV]
theorem natV_one (l : List Nat) : (natV l).all (·.oneCell') = true := by simp [natV, Value.oneCell']
theorem nats_cells {w : World} {D : Nat → Prop} {g o n c : Nat} {l : List Nat} (h : Ints w D (.slice (some ⟨g, o, none⟩) n c) (l.map Int.ofNat)) (i : Nat) (u : Value) (hi : (natV l)[i]? = some u) : w.cell? ⟨g, o + i, none⟩ = some u := by
  rw [natV, List.getElem?_map] at hi
  obtain ⟨x, hx, rfl⟩ := Option.map_eq_some_iff.1 hi
  obtain ⟨g', o', he, hc⟩ := nats_get h hx
  injection he with he
  injection he with e1 e2
  subst e1 e2
  exact hc
theorem Row.lo {w : World} {base e size n c k : Nat} {A : Option Addr} {xs : List Value} (h : w.ownsRow base e size (.slice A n c) n xs) (hk : A.map (·.block) = some k) : base ≤ k := by
  rcases h.2 with ⟨hv, _⟩ | ⟨g, cap, cur, hv, hg, _⟩
  · injection hv with hv; subst hv; simp at hk
  · injection hv with hv; subst hv; simp at hk; omega
/-- New numbers. -/
def NewI (w : World) (l : List Nat) (v : Value) (w' : World) : Prop := Pure w w' ∧ ∃ A c, v = .slice A l.length c ∧ w'.ownsRow w.heap.size 3 1 (.slice A l.length c) l.length (natV l)
theorem run_app2 {P : Program} {ρ : Env} {o : Oper} {w w' : World} {x y : Operand} {t tn ty : TypeId} {vx vy v : Value} (ho : o.op = .call { callee := .builtin .append, args := #[x, y], argTypes := #[t, tn] }) (hty : o.type = ty) (hx : ev ρ x = vx) (hy : ev ρ y = vy) (hr : (Builtin.append_ #[t, tn] ty #[vx, vy]).run P w = .ok v w') : (execOp (ev ρ) o).run P w = .ok (.value v) w' := by
  subst hty
  simp [execOp, ho, resolve, invoke, builtin, hx, hy, hr]
theorem infoIntG : (Tryd.prog.info? 3).map (fun i => (i.zero, i.size, i.bytes)) = some (some (.int .i64 0), 1, 8) := by kernel_rfl
theorem grow_any (n : Nat) (w0 : World) (hn : n ≤ 1000000) : Calls Tryd.prog 41 #[.slice none 0 0, .int .i64 n] w0 fun en w' => ∃ v, en = .returned v ∧ NewI w0 [] v w' := by
  have hI := Inv.start (fun _ => False) w0
  obtain ⟨i0, hi0, hz0, hz1, hz2⟩ := info_parts infoIntG
  refine calls_of_W (N := Tryd.f41.ntmps) Tryd.func41 rfl rfl rfl ?_
  refine W_seq ?_
  refine W_region ?_
  refine WL_val rfl rfl rfl (by first | exact rAsgnS rfl rfl | exact rAsgn rfl) ?_
  refine WL_nil ?_
  refine W_seq ?_
  refine W_seq ?_
  refine W_region ?_
  refine WL_val rfl rfl rfl (by first | exact rMoveI rfl rfl | exact rMove rfl) ?_
  refine WL_val rfl rfl rfl (by first | exact rLssT rfl rfl rfl (by omega) | exact rLssF rfl rfl rfl (by omega) | exact rLss rfl rfl rfl) ?_
  refine WL_nil ?_
  refine W_cond false rfl ?_
  refine W_skip ?_
  rcases Nat.eq_zero_or_pos n with h0 | h0
  · subst h0
    refine W_seq ?_
    refine W_seq ?_
    refine W_region ?_
    refine WL_val rfl rfl rfl (by first | exact rMoveI rfl rfl | exact rMove rfl) ?_
    refine WL_val rfl rfl rfl (by first | exact rMoveS rfl rfl | exact rMove rfl) ?_
    refine WL_val rfl rfl rfl (rCap rfl Tryd.underlying23 rfl) ?_
    refine WL_val rfl rfl rfl (by first | exact rMoveS rfl rfl | exact rMove rfl) ?_
    refine WL_val rfl rfl rfl (rLen rfl Tryd.underlying23 rfl) ?_
    refine WL_val rfl rfl rfl (by first | exact rSub rfl rfl rfl (by omega) | exact rSubW rfl rfl rfl) ?_
    refine WL_val rfl rfl rfl (by first | exact rSub rfl rfl rfl (by omega) | exact rSubW rfl rfl rfl) ?_
    refine WL_val rfl rfl rfl (by first | exact rAsgnI rfl rfl | exact rAsgn rfl) ?_
    refine WL_nil ?_
    refine W_seq ?_
    refine W_region ?_
    refine WL_val rfl rfl rfl (by first | exact rMoveI rfl rfl | exact rMove rfl) ?_
    refine WL_val rfl rfl rfl (by first | exact rGtrT rfl rfl rfl (by omega) | exact rGtrF rfl rfl rfl (by omega) | exact rGtr rfl rfl rfl) ?_
    refine WL_nil ?_
    refine W_cond false rfl ?_
    refine W_skip ?_
    refine W_seq ?_
    refine W_region ?_
    refine WL_val rfl rfl rfl (by first | exact rMoveS rfl rfl | exact rMove rfl) ?_
    refine WL_val rfl rfl rfl (by first | exact rAsgnS rfl rfl | exact rAsgn rfl) ?_
    refine WL_nil ?_
    refine W_ret ?_
    exact ret1 4 (.inr rfl) rfl ⟨_, rfl, hI.pu, none, 0, rfl, World.ownsRow_nil ..⟩
  · refine W_seq ?_
    refine W_seq ?_
    refine W_region ?_
    refine WL_val rfl rfl rfl (by first | exact rMoveI rfl rfl | exact rMove rfl) ?_
    refine WL_val rfl rfl rfl (by first | exact rMoveS rfl rfl | exact rMove rfl) ?_
    refine WL_val rfl rfl rfl (rCap rfl Tryd.underlying23 rfl) ?_
    refine WL_val rfl rfl rfl (by first | exact rMoveS rfl rfl | exact rMove rfl) ?_
    refine WL_val rfl rfl rfl (rLen rfl Tryd.underlying23 rfl) ?_
    refine WL_val rfl rfl rfl (by first | exact rSub rfl rfl rfl (by omega) | exact rSubW rfl rfl rfl) ?_
    refine WL_val rfl rfl rfl (by first | exact rSub rfl rfl rfl (by omega) | exact rSubW rfl rfl rfl) ?_
    refine WL_val rfl rfl rfl (by first | exact rAsgnI rfl rfl | exact rAsgn rfl) ?_
    refine WL_nil ?_
    refine W_seq ?_
    refine W_region ?_
    refine WL_val rfl rfl rfl (by first | exact rMoveI rfl rfl | exact rMove rfl) ?_
    refine WL_val rfl rfl rfl (by first | exact rGtrT rfl rfl rfl (by omega) | exact rGtrF rfl rfl rfl (by omega) | exact rGtr rfl rfl rfl) ?_
    refine WL_nil ?_
    refine W_cond true rfl ?_
    have hrun := Lib.run_append_nil_zeros (P := Tryd.prog) w0 23 3 23 3 i0 (.int .i64 0) .i64 .i64 Tryd.underlying23 Tryd.underlying3 hi0 hz0 n h0 (by omega) (by omega) (by rw [hz2]; omega)
    have hge := grownCap_ge w0 n 0 3
    have hle := grownCap_le_maxLen w0 n 0 3 (by simp [maxLen]; omega)
    generalize grownCap w0 n 0 3 = cap at *
    refine W_region ?_
    refine WL_val rfl rfl rfl (by first | exact rMoveS rfl rfl | exact rMove rfl) ?_
    refine WL_val rfl rfl rfl (by first | exact rMoveS rfl rfl | exact rMove rfl) ?_
    refine WL_val rfl rfl rfl (rCap rfl Tryd.underlying23 rfl) ?_
    refine WL_val rfl rfl rfl (rSliceTo (sz := 1) rfl Tryd.underlying23 (by kernel_rfl) rfl rfl (by omega)) ?_
    refine WL_val rfl rfl rfl (by first | exact rMoveI rfl rfl | exact rMove rfl) ?_
    -- STOP: call ['Op.call', ('st', {'callee': ['Callee.builtin', 'Builtin.append'], 'args': ('arr', [['Operand.tmp', '20'], ['Operand.tmp', '21']]), 'argTypes': ('arr
    have hpu : Pure w0 (w0.drew.alloc (.cells (Builtin.zeroCells (Value.int .i64 0).cells n ++ Builtin.zeroCells (Value.int .i64 0).cells (cap - n)) 3)) := ((Pure.refl w0).drew).alloc _
    have hown : (w0.drew.alloc (.cells (Builtin.zeroCells (Value.int .i64 0).cells n ++ Builtin.zeroCells (Value.int .i64 0).cells (cap - n)) 3)).ownsRow w0.heap.size 3 1 (.slice (some ⟨w0.heap.size, 0, none⟩) 0 cap) 0 [] := by
      refine ⟨rfl, .inr ⟨w0.heap.size, cap, _, rfl, Nat.le_refl _, Blk.new w0.drew 3 _, Nat.zero_le _, hle, ?_, by simp⟩⟩
      simp [Builtin.zeroCells, Value.cells]
      omega
    refine WL_eff rfl rfl rfl (run_app2 (vx := .slice none 0 0) (vy := .int .i64 (n : Int)) rfl rfl rfl (by show Value.int .i64 ((n : Int) - (((0 : Nat) : Int) - ((0 : Nat) : Int))) = _; simp) hrun) ?_
    replace hI := hI.fresh hpu (Row.ok hown) (fun k hk => Row.lo hown hk)
    clear hrun hown
    generalize (w0.drew.alloc (.cells (Builtin.zeroCells (Value.int .i64 0).cells n ++ Builtin.zeroCells (Value.int .i64 0).cells (cap - n)) 3)) = w at *
    refine WL_val rfl rfl rfl (by first | exact rMoveS rfl rfl | exact rMove rfl) ?_
    refine WL_val rfl rfl rfl (rLen rfl Tryd.underlying23 rfl) ?_
    refine WL_val rfl rfl rfl (rSliceTo (sz := 1) rfl Tryd.underlying23 (by kernel_rfl) rfl rfl (by omega)) ?_
    refine WL_val rfl rfl rfl (by first | exact rAsgnS rfl rfl | exact rAsgn rfl) ?_
    refine WL_nil ?_
    refine W_seq ?_
    refine W_region ?_
    refine WL_val rfl rfl rfl (by first | exact rMoveS rfl rfl | exact rMove rfl) ?_
    refine WL_val rfl rfl rfl (by first | exact rAsgnS rfl rfl | exact rAsgn rfl) ?_
    refine WL_nil ?_
    refine W_ret ?_
    exact ret1 4 (.inr rfl) rfl ⟨_, rfl, hpu, _, cap, rfl, hI.g0⟩

/-- A list of slices of bytes. -/
def Parts (w : World) (D : Nat → Prop) (g : Nat) (ls : List (List Nat)) : Prop := ∀ (i : Nat) (l : List Nat), ls[i]? = some l → ∃ A c, w.cell? ⟨g, i, none⟩ = some (.slice A l.length c) ∧ Ints w D (.slice A l.length c) (l.map Int.ofNat)
theorem sum_take {ls : List (List Nat)} {k : Nat} {l : List Nat} (h : ls[k]? = some l) : (ls.take (k + 1)).flatten = (ls.take k).flatten ++ l := by
  rw [take_snoc' h, List.flatten_append]
  simp
set_option maxHeartbeats 1000000 in
theorem concat_any (g m : Nat) (ls : List (List Nat)) (D : Nat → Prop) (w0 : World) (h : Parts w0 D g ls) (hm : ls.length = m) (hl : ls.flatten.length ≤ 1000000) (hm9 : m ≤ 1000) :
    Calls Tryd.prog 26 #[.slice (some ⟨g, 0, none⟩) m m] w0 fun en w' => ∃ v, en = .returned v ∧ NewI w0 ls.flatten v w' := by
  have hI := Inv.start (fun _ => False) w0
  have hpre : ∀ k, (ls.take k).flatten.length ≤ ls.flatten.length := fun k => by
    conv => rhs; rw [← List.take_append_drop k ls, List.flatten_append, List.length_append]
    omega
  refine calls_of_W (N := Tryd.f26.ntmps) Tryd.func26 rfl rfl rfl ?_
  refine W_seq ?_
  refine W_region ?_
  refine WL_val rfl rfl rfl (by first | exact rAsgnS rfl rfl | exact rAsgn rfl) ?_
  refine WL_nil ?_
  refine W_seq ?_
  refine W_region ?_
  refine WL_val rfl rfl rfl (by first | exact rAsgnI rfl rfl | exact rAsgn rfl) ?_
  refine WL_nil ?_
  refine W_seq ?_
  refine W_seq ?_
  refine W_region ?_
  refine WL_val rfl rfl rfl (by first | exact rMoveS rfl rfl | exact rMove rfl) ?_
  refine WL_val rfl rfl rfl (rLen rfl Tryd.underlying96 rfl) ?_
  refine WL_val rfl rfl rfl (by first | exact rMoveI rfl rfl | exact rMove rfl) ?_
  refine WL_nil ?_
  refine W_block ?_
  refine W_loop (fun ρ w => ∃ k : Nat, k ≤ m ∧ Has ρ [(11, .int .i64 k), (10, .int .i64 m), (9, .slice (some ⟨g, 0, none⟩) m m), (0, .slice (some ⟨g, 0, none⟩) m m), (3, .int .i64 ((ls.take k).flatten.length : Nat))] ∧ w0 = w) (fun ρ _ => m - cnt (ρ 11))
    ⟨0, by omega, ⟨rfl, rfl, rfl, rfl, rfl, trivial⟩, rfl⟩ ?_
  rintro ρ w ⟨k, hk, hH, rfl⟩
  obtain ⟨σ, rfl⟩ := hH.open
  by_cases hkm : k < m
  · obtain ⟨l, hlk⟩ : ∃ l, ls[k]? = some l := ⟨_, List.getElem?_eq_getElem (by omega)⟩
    obtain ⟨A, c, hc, hb⟩ := h k l hlk
    have hst := congrArg List.length (sum_take hlk)
    rw [List.length_append] at hst
    have hp1 := hpre (k + 1)
    refine W_seq ?_
    refine W_region ?_
    refine WL_val rfl rfl rfl (by first | exact rLssT rfl rfl rfl (by omega) | exact rLssF rfl rfl rfl (by omega) | exact rLss rfl rfl rfl) ?_
    refine WL_nil ?_
    refine W_seq ?_
    refine W_cond true rfl ?_
    refine W_skip ?_
    refine W_seq ?_
    refine W_block ?_
    refine W_seq ?_
    refine W_region ?_
    refine WL_val rfl rfl rfl (by first | exact rIdx0 rfl Tryd.underlying96 (by kernel_rfl) rfl rfl rfl (by omega) | exact rIdx1 rfl Tryd.underlying96 (by kernel_rfl) rfl rfl (by omega)) ?_
    refine WL_val rfl rfl rfl (by first | exact rLd (v := .slice _ _ _) rfl (by kernel_rfl) rfl (by first | exact hI.oldp hc | exact hc) | exact rLd rfl (by kernel_rfl) rfl (by first | exact hI.oldp hc | exact hc)) ?_
    refine WL_val rfl rfl rfl (by first | exact rAsgnS rfl rfl | exact rAsgn rfl) ?_
    refine WL_nil ?_
    refine W_seq ?_
    refine W_region ?_
    refine WL_val rfl rfl rfl (by first | exact rMoveI rfl rfl | exact rMove rfl) ?_
    refine WL_val rfl rfl rfl (by first | exact rMoveS rfl rfl | exact rMove rfl) ?_
    refine WL_val rfl rfl rfl (rLen rfl Tryd.underlying23 rfl) ?_
    refine WL_val rfl rfl rfl (by first | exact rInc rfl rfl rfl (by omega) | exact rAdd rfl rfl rfl (by omega) | exact rAddW rfl rfl rfl) ?_
    refine WL_val rfl rfl rfl (by first | exact rAsgnI rfl rfl | exact rAsgn rfl) ?_
    refine WL_nil ?_
    refine W_seq ?_
    refine W_region ?_
    refine WL_val rfl rfl rfl (by first | exact rMoveI rfl rfl | exact rMove rfl) ?_
    refine WL_val rfl rfl rfl (by first | exact rLssT rfl rfl rfl (by omega) | exact rLssF rfl rfl rfl (by omega) | exact rLss rfl rfl rfl) ?_
    refine WL_nil ?_
    refine W_cond false rfl ?_
    refine W_skip ?_
    refine W_region ?_
    refine WL_val rfl rfl rfl (by first | exact rInc rfl rfl rfl (by omega) | exact rAdd rfl rfl rfl (by omega) | exact rAddW rfl rfl rfl) ?_
    refine WL_val rfl rfl rfl (by first | exact rMoveI rfl rfl | exact rMove rfl) ?_
    refine WL_nil ?_
    refine ⟨⟨k + 1, by omega, ⟨rfl, rfl, rfl, rfl, ?_, trivial⟩, rfl⟩, by show m - ((k + 1 : Nat) : Int).toNat < m - (k : Int).toNat; omega⟩
    show Value.int .i64 (((ls.take k).flatten.length : Int) + (l.length : Int)) = _
    rw [hst]
    push_cast
    rfl
  · obtain rfl : m = k := by omega
    rw [List.take_of_length_le (by omega)] at *
    refine W_seq ?_
    refine W_region ?_
    refine WL_val rfl rfl rfl (by first | exact rLssT rfl rfl rfl (by omega) | exact rLssF rfl rfl rfl (by omega) | exact rLss rfl rfl rfl) ?_
    refine WL_nil ?_
    refine W_seq ?_
    refine W_cond false rfl ?_
    refine W_exit ?_
    refine W_seq ?_
    refine W_region ?_
    refine WL_val rfl rfl rfl (by first | exact rMoveI rfl rfl | exact rMove rfl) ?_
    refine WL_call rfl rfl rfl (rCall (vs := [.slice _ _ _, .int .i64 _]) rfl Tryd.func41 rfl rfl rfl) ?_
    refine (grow_any ls.flatten.length _ (by omega)).mono ?_
    rintro en w1 ⟨v, rfl, hp, A, c, rfl, hown⟩
    refine ⟨_, rfl, ?_⟩
    replace hI := hI.fresh hp (Row.ok hown) (fun k hk => Row.lo hown hk)
    refine WL_val rfl rfl rfl (by first | exact rAsgnS rfl rfl | exact rAsgn rfl) ?_
    refine WL_nil ?_
    refine W_seq ?_
    refine W_seq ?_
    refine W_region ?_
    refine WL_val rfl rfl rfl (by first | exact rMoveS rfl rfl | exact rMove rfl) ?_
    refine WL_val rfl rfl rfl (rLen rfl Tryd.underlying96 rfl) ?_
    refine WL_val rfl rfl rfl (by first | exact rMoveI rfl rfl | exact rMove rfl) ?_
    refine WL_nil ?_
    refine W_block ?_
    refine W_loop (fun ρ w => ∃ (k : Nat) (A : Option Addr) (c : Nat), k ≤ m ∧ (ls.take k).flatten.length ≤ c ∧ Has ρ [(27, .int .i64 k), (26, .int .i64 m), (25, .slice (some ⟨g, 0, none⟩) m m), (6, .slice A (ls.take k).flatten.length c)] ∧ Inv (fun _ => False) w0 w [Row w0.heap.size 3 1 A (ls.take k).flatten.length c (natV (ls.take k).flatten)]) (fun ρ _ => m - cnt (ρ 27))
      ⟨0, A, c, by omega, by simp, ⟨rfl, rfl, rfl, rfl, trivial⟩, hI⟩ ?_
    clear hI
    rintro ρ w ⟨k, A, c, hk, hlc, hH, hI⟩
    obtain ⟨σ, rfl⟩ := hH.open
    by_cases hkm : k < m
    · obtain ⟨l, hlk⟩ : ∃ l, ls[k]? = some l := ⟨_, List.getElem?_eq_getElem (by omega)⟩
      obtain ⟨A2, c2, hc, hb⟩ := h k l hlk
      have hst := sum_take hlk
      have hsl := congrArg List.length hst
      rw [List.length_append] at hsl
      have hp1 := hpre (k + 1)
      refine W_seq ?_
      refine W_region ?_
      refine WL_val rfl rfl rfl (by first | exact rLssT rfl rfl rfl (by omega) | exact rLssF rfl rfl rfl (by omega) | exact rLss rfl rfl rfl) ?_
      refine WL_nil ?_
      refine W_seq ?_
      refine W_cond true rfl ?_
      refine W_skip ?_
      refine W_seq_cut (fun ρ w => ∃ (A : Option Addr) (c : Nat), (ls.take (k + 1)).flatten.length ≤ c ∧ Has ρ [(27, .int .i64 k), (26, .int .i64 m), (25, .slice (some ⟨g, 0, none⟩) m m), (6, .slice A (ls.take (k + 1)).flatten.length c)] ∧ Inv (fun _ => False) w0 w [Row w0.heap.size 3 1 A (ls.take (k + 1)).flatten.length c (natV (ls.take (k + 1)).flatten)]) ?_ ?_
      · refine W_block ?_
        refine W_seq ?_
        refine W_region ?_
        refine WL_val rfl rfl rfl (by first | exact rIdx0 rfl Tryd.underlying96 (by kernel_rfl) rfl rfl rfl (by omega) | exact rIdx1 rfl Tryd.underlying96 (by kernel_rfl) rfl rfl (by omega)) ?_
        refine WL_val rfl rfl rfl (by first | exact rLd (v := .slice _ _ _) rfl (by kernel_rfl) rfl (by first | exact hI.oldp hc | exact hc) | exact rLd rfl (by kernel_rfl) rfl (by first | exact hI.oldp hc | exact hc)) ?_
        refine WL_val rfl rfl rfl (by first | exact rAsgnS rfl rfl | exact rAsgn rfl) ?_
        refine WL_nil ?_
        rcases Nat.eq_zero_or_pos l.length with hl0 | hl0
        · have hln : l = [] := List.eq_nil_of_length_eq_zero hl0
          subst hln
          rw [List.append_nil] at hst
          refine W_region ?_
          refine WL_val rfl rfl rfl (by first | exact rMoveS rfl rfl | exact rMove rfl) ?_
          refine WL_val rfl rfl rfl (by first | exact rMoveS rfl rfl | exact rMove rfl) ?_
          -- STOP: call ['Op.call', ('st', {'callee': ['Callee.builtin', 'Builtin.append'], 'args': ('arr', [['Operand.tmp', '31'], ['Operand.tmp', '32']]), 'argTypes': ('arr
          refine WL_val rfl rfl rfl (rApp0 rfl Tryd.underlying23 (sz := 1) (by kernel_rfl) rfl rfl hlc) ?_
          refine WL_val rfl rfl rfl (by first | exact rAsgnS rfl rfl | exact rAsgn rfl) ?_
          refine WL_nil ?_
          rw [hst]
          exact ⟨A, c, hlc, ⟨rfl, rfl, rfl, rfl, trivial⟩, hI⟩
        · obtain ⟨x0, hx0⟩ : ∃ x, l[0]? = some x := ⟨_, List.getElem?_eq_getElem hl0⟩
          obtain ⟨g2, o2, rfl, _⟩ := nats_get hb hx0
          refine W_region ?_
          refine WL_val rfl rfl rfl (by first | exact rMoveS rfl rfl | exact rMove rfl) ?_
          refine WL_val rfl rfl rfl (by first | exact rMoveS rfl rfl | exact rMove rfl) ?_
          -- STOP: call ['Op.call', ('st', {'callee': ['Callee.builtin', 'Builtin.append'], 'args': ('arr', [['Operand.tmp', '31'], ['Operand.tmp', '32']]), 'argTypes': ('arr
          refine WL_app0 (z := .int .i64 0) (by_ := 8) (news := natV l) hI rfl rfl rfl rfl rfl rfl Tryd.underlying23 (by kernel_rfl) rfl (by omega) (by rw [natV_len, Nat.mul_one]) (fun i u hi => hI.oldp (nats_cells hb i u hi)) (natV_one _) (by omega) (by omega) hI.pu.size ?_
          clear hI; rintro A' c' w hc1 hc2 hI
          refine WL_val rfl rfl rfl (by first | exact rAsgnS rfl rfl | exact rAsgn rfl) ?_
          refine WL_nil ?_
          refine ⟨A', c', by omega, ⟨rfl, rfl, rfl, ?_, trivial⟩, ?_⟩
          · rw [hsl]; rfl
          · rw [hst, natV_app, List.length_append]
            exact hI
      · clear hI
        rintro ρ w ⟨A', c', hlc', hH, hI⟩
        obtain ⟨σ, rfl⟩ := hH.open
        refine W_region ?_
        refine WL_val rfl rfl rfl (by first | exact rInc rfl rfl rfl (by omega) | exact rAdd rfl rfl rfl (by omega) | exact rAddW rfl rfl rfl) ?_
        refine WL_val rfl rfl rfl (by first | exact rMoveI rfl rfl | exact rMove rfl) ?_
        refine WL_nil ?_
        exact ⟨⟨k + 1, A', c', by omega, hlc', ⟨rfl, rfl, rfl, rfl, trivial⟩, hI⟩, by show m - ((k + 1 : Nat) : Int).toNat < m - (k : Int).toNat; omega⟩
    · obtain rfl : m = k := by omega
      rw [List.take_of_length_le (by omega)] at *
      refine W_seq ?_
      refine W_region ?_
      refine WL_val rfl rfl rfl (by first | exact rLssT rfl rfl rfl (by omega) | exact rLssF rfl rfl rfl (by omega) | exact rLss rfl rfl rfl) ?_
      refine WL_nil ?_
      refine W_seq ?_
      refine W_cond false rfl ?_
      refine W_exit ?_
      refine W_seq ?_
      refine W_region ?_
      refine WL_val rfl rfl rfl (by first | exact rMoveS rfl rfl | exact rMove rfl) ?_
      refine WL_val rfl rfl rfl (by first | exact rAsgnS rfl rfl | exact rAsgn rfl) ?_
      refine WL_nil ?_
      refine W_ret ?_
      exact ret1 2 (.inr rfl) rfl ⟨_, rfl, hI.pu, A, c, rfl, hI.g0⟩
end Go.Proofs.YtgkmlnbnjbpodaaDoor
