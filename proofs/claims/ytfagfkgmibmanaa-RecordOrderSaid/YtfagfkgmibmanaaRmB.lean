/- record.Merge: its sort at no ticket; Merge. -/
import Derived.Test.YtfagfkgmibmanaaRmA
namespace Go.Proofs.Ytfagfkgmibmanaa
open Go.RowKit
set_option linter.unusedVariables false
set_option linter.unusedSimpArgs false
section
variable {P : Program} {ρ : Env} {o : Oper} {w : World} {x y : Operand} {t : TypeId} {k : IntKind}
theorem rIxStr {s : ByteArray} {i m : Nat} (ho : o.op = .index t x y) (ht : P.underlying t = some .string) (hx : ev ρ x = .string s) (hy : ev ρ y = .int k (i : Int)) (hs : s.size = m) (hi : i < m) : Runs P ρ o w (.int .u8 ((s[i]?.getD 0).toNat : Int)) := by
  subst hs
  have e : s[i]? = some s[i] := ByteArray.getElem?_lt' s _ hi
  have h := run_index_string (P := P) w t s k (i : Int) ht
  rw [dif_pos ⟨by omega, by omega⟩] at h
  rw [e]
  simp [Runs, execOp, ho, hx, hy, h]
end
set_option maxHeartbeats 1000000 in
theorem len64_any (n : Nat) (hn : n ≤ 200) (w0 : World) : Calls Try.prog 30 #[.int .u64 (n : Int)] w0 fun e w' => (∃ z : Int, e = .returned (.int .i64 z)) ∧ Pure w0 w' := by
  have hI := Inv.start (fun _ => False) w0
  refine calls_of_W (N := Try.f30.ntmps) Try.func30 rfl rfl rfl ?_
  refine W_seq ?_
  refine W_region ?_
  refine WL_val rfl rfl rfl (by first | exact rAsgnI rfl rfl | exact rAsgn rfl) ?_
  refine WL_nil ?_
  refine W_seq ?_
  refine W_seq ?_
  refine W_region ?_
  refine WL_val rfl rfl rfl (by first | exact rMoveI rfl rfl | exact rMove rfl) ?_
  refine WL_val rfl rfl rfl (by first | exact rGeqT rfl rfl rfl (by omega) | exact rGeqF rfl rfl rfl (by omega) | exact rGeq rfl rfl rfl) ?_
  refine WL_nil ?_
  refine W_cond false rfl ?_
  refine W_skip ?_
  refine W_seq ?_
  refine W_seq ?_
  refine W_region ?_
  refine WL_val rfl rfl rfl (by first | exact rMoveI rfl rfl | exact rMove rfl) ?_
  refine WL_val rfl rfl rfl (by first | exact rGeqT rfl rfl rfl (by omega) | exact rGeqF rfl rfl rfl (by omega) | exact rGeq rfl rfl rfl) ?_
  refine WL_nil ?_
  refine W_cond false rfl ?_
  refine W_skip ?_
  refine W_seq ?_
  refine W_seq ?_
  refine W_region ?_
  refine WL_val rfl rfl rfl (by first | exact rMoveI rfl rfl | exact rMove rfl) ?_
  refine WL_val rfl rfl rfl (by first | exact rGeqT rfl rfl rfl (by omega) | exact rGeqF rfl rfl rfl (by omega) | exact rGeq rfl rfl rfl) ?_
  refine WL_nil ?_
  refine W_cond false rfl ?_
  refine W_skip ?_
  refine W_seq ?_
  refine W_region ?_
  refine WL_val rfl rfl rfl (by first | exact rMoveI rfl rfl | exact rMove rfl) ?_
  refine WL_val rfl rfl rfl (by first | exact rMoveI rfl rfl | exact rMove rfl) ?_
  refine WL_val rfl rfl rfl (by first | exact rConv_u8s rfl Try.underlying73 Try.underlying5 rfl (by omega) | exact rConv_u8 rfl Try.underlying73 Try.underlying5 rfl | exact rConvW rfl Try.underlying73 Try.underlying5 rfl) ?_
  refine WL_val rfl rfl rfl (rIxStr (m := 256) rfl Try.underlying9 rfl rfl (by kernel_rfl) (by omega)) ?_
  refine WL_val rfl rfl rfl (rConvW rfl Try.underlying5 Try.underlying3 rfl) ?_
  refine WL_val rfl rfl rfl (rAddW rfl rfl rfl) ?_
  refine WL_val rfl rfl rfl (by first | exact rAsgnI rfl rfl | exact rAsgn rfl) ?_
  refine WL_nil ?_
  refine W_ret ?_
  exact ret1 2 (.inr rfl) rfl ⟨⟨_, rfl⟩, hI.pu⟩
theorem len_any (n : Nat) (hn : n ≤ 200) (w0 : World) : Calls Try.prog 15 #[.int .u64 (n : Int)] w0 fun e w' => (∃ z : Int, e = .returned (.int .i64 z)) ∧ Pure w0 w' := by
  have hI := Inv.start (fun _ => False) w0
  refine calls_of_W (N := Try.f15.ntmps) Try.func15 rfl rfl rfl ?_
  refine W_seq ?_
  refine W_region ?_
  refine WL_val rfl rfl rfl (by first | exact rAsgnI rfl rfl | exact rAsgn rfl) ?_
  refine WL_nil ?_
  refine W_seq ?_
  refine W_cond false rfl ?_
  refine W_skip ?_
  refine W_seq ?_
  refine W_region ?_
  refine WL_val rfl rfl rfl (by first | exact rMoveI rfl rfl | exact rMove rfl) ?_
  refine WL_call rfl rfl rfl (rCall (vs := [.int .u64 _]) rfl Try.func30 rfl rfl rfl) ?_
  refine (len64_any n hn _).mono ?_
  rintro e w1 ⟨⟨z, rfl⟩, hp⟩
  refine ⟨_, rfl, ?_⟩
  replace hI := hI.pure hp
  refine WL_val rfl rfl rfl (by first | exact rAsgnI rfl rfl | exact rAsgn rfl) ?_
  refine WL_nil ?_
  refine W_ret ?_
  exact ret1 2 (.inr rfl) rfl ⟨⟨_, rfl⟩, hI.pu⟩
abbrev cmpW : Value := .func (.func 9) #[] #[]
theorem isort0_any (A : Option Addr) (c : Nat) (w0 : World) : Calls Try.prog 21 #[.slice A 0 c, .int .i64 0, .int .i64 0, cmpW] w0 fun e w' => e = .returned (.tuple #[]) ∧ Pure w0 w' := by
  have hI := Inv.start (fun _ => False) w0
  refine calls_of_W (N := Try.f21.ntmps) Try.func21 rfl rfl rfl ?_
  refine W_seq ?_
  refine W_region ?_
  refine WL_val rfl rfl rfl (by first | exact rMoveI rfl rfl | exact rMove rfl) ?_
  refine WL_val rfl rfl rfl (by first | exact rInc rfl rfl rfl (by omega) | exact rAdd rfl rfl rfl (by omega) | exact rAddW rfl rfl rfl) ?_
  refine WL_val rfl rfl rfl (by first | exact rAsgnI rfl rfl | exact rAsgn rfl) ?_
  refine WL_nil ?_
  refine W_block ?_
  refine W_loopN (fun mu ρ w => mu = 0 ∧ Has ρ [(8, .int .i64 1), (2, .int .i64 0)] ∧ w = w0) 0 ⟨rfl, ⟨rfl, rfl, trivial⟩, rfl⟩ ?_
  rintro mu ρ w ⟨rfl, hH, rfl⟩
  obtain ⟨σ, rfl⟩ := hH.open
  refine W_seq ?_
  refine W_seq ?_
  refine W_region ?_
  refine WL_val rfl rfl rfl (by first | exact rMoveI rfl rfl | exact rMove rfl) ?_
  refine WL_val rfl rfl rfl (by first | exact rMoveI rfl rfl | exact rMove rfl) ?_
  refine WL_val rfl rfl rfl (by first | exact rLssT rfl rfl rfl (by omega) | exact rLssF rfl rfl rfl (by omega) | exact rLss rfl rfl rfl) ?_
  refine WL_nil ?_
  refine W_cond false rfl ?_
  refine W_exit ?_
  exact ret0 (.inl rfl) rfl ⟨rfl, hI.pu⟩
theorem pdq0_any (A : Option Addr) (c : Nat) (z : Int) (w0 : World) : Calls Try.prog 14 #[.slice A 0 c, .int .i64 0, .int .i64 0, .int .i64 z, cmpW] w0 fun e w' => e = .returned (.tuple #[]) ∧ Pure w0 w' := by
  have hI := Inv.start (fun _ => False) w0
  refine calls_of_W (N := Try.f14.ntmps) Try.func14 rfl rfl rfl ?_
  refine W_seq ?_
  refine W_region ?_
  refine WL_val rfl rfl rfl (by first | exact rAsgnB rfl rfl | exact rAsgn rfl) ?_
  refine WL_nil ?_
  refine W_seq ?_
  refine W_region ?_
  refine WL_val rfl rfl rfl (by first | exact rAsgnB rfl rfl | exact rAsgn rfl) ?_
  refine WL_nil ?_
  refine W_block ?_
  refine W_loopN (fun mu ρ w => mu = 0 ∧ Has ρ [(0, .slice A 0 c), (1, .int .i64 0), (2, .int .i64 0), (3, .int .i64 z), (4, cmpW)] ∧ w = w0) 0 ⟨rfl, ⟨rfl, rfl, rfl, rfl, rfl, trivial⟩, rfl⟩ ?_
  rintro mu ρ w ⟨rfl, hH, rfl⟩
  obtain ⟨σ, rfl⟩ := hH.open
  refine W_block ?_
  refine W_seq ?_
  refine W_region ?_
  refine WL_val rfl rfl rfl (by first | exact rMoveI rfl rfl | exact rMove rfl) ?_
  refine WL_val rfl rfl rfl (by first | exact rMoveI rfl rfl | exact rMove rfl) ?_
  refine WL_val rfl rfl rfl (by first | exact rSub rfl rfl rfl (by omega) | exact rSubW rfl rfl rfl) ?_
  refine WL_val rfl rfl rfl (by first | exact rAsgnI rfl rfl | exact rAsgn rfl) ?_
  refine WL_nil ?_
  refine W_seq ?_
  refine W_seq ?_
  refine W_region ?_
  refine WL_val rfl rfl rfl (by first | exact rMoveI rfl rfl | exact rMove rfl) ?_
  refine WL_val rfl rfl rfl (by first | exact rLeqT rfl rfl rfl (by omega) | exact rLeqF rfl rfl rfl (by omega) | exact rLeq rfl rfl rfl) ?_
  refine WL_nil ?_
  refine W_cond true rfl ?_
  refine W_seq ?_
  refine W_region ?_
  refine WL_val rfl rfl rfl (by first | exact rMoveS rfl rfl | exact rMove rfl) ?_
  refine WL_val rfl rfl rfl (by first | exact rMoveI rfl rfl | exact rMove rfl) ?_
  refine WL_val rfl rfl rfl (by first | exact rMoveI rfl rfl | exact rMove rfl) ?_
  refine WL_val rfl rfl rfl (by first | exact rMoveF rfl rfl | exact rMove rfl) ?_
  refine WL_call rfl rfl rfl (rCall (vs := [.slice _ _ _, .int .i64 _, .int .i64 _, .func _ _ _]) rfl Try.func21 rfl rfl rfl) ?_
  refine (isort0_any A c _).mono ?_
  rintro e w1 ⟨rfl, hp⟩
  refine ⟨_, rfl, ?_⟩
  replace hI := hI.pure hp
  refine WL_nil ?_
  refine W_ret ?_
  exact ret0 (.inr rfl) rfl ⟨rfl, hI.pu⟩
theorem sort0_any (A : Option Addr) (c : Nat) (w0 : World) : Calls Try.prog 8 #[.slice A 0 c, cmpW] w0 fun e w' => e = .returned (.tuple #[]) ∧ Pure w0 w' := by
  have hI := Inv.start (fun _ => False) w0
  refine calls_of_W (N := Try.f8.ntmps) Try.func8 rfl rfl rfl ?_
  refine W_seq ?_
  refine W_region ?_
  refine WL_val rfl rfl rfl (by first | exact rMoveS rfl rfl | exact rMove rfl) ?_
  refine WL_val rfl rfl rfl (rLen rfl Try.underlying39 rfl) ?_
  refine WL_val rfl rfl rfl (by first | exact rAsgnI rfl rfl | exact rAsgn rfl) ?_
  refine WL_nil ?_
  refine W_region ?_
  refine WL_val rfl rfl rfl (by first | exact rMoveS rfl rfl | exact rMove rfl) ?_
  refine WL_val rfl rfl rfl (by first | exact rMoveI rfl rfl | exact rMove rfl) ?_
  refine WL_val rfl rfl rfl (by first | exact rMoveI rfl rfl | exact rMove rfl) ?_
  refine WL_val rfl rfl rfl (by first | exact rConv_u64s rfl Try.underlying3 Try.underlying38 rfl (by omega) | exact rConvW rfl Try.underlying3 Try.underlying38 rfl) ?_
  refine WL_call rfl rfl rfl (rCall (vs := [.int .u64 _]) rfl Try.func15 rfl rfl rfl) ?_
  refine (len_any 0 (by omega) _).mono ?_
  rintro e w1 ⟨⟨z, rfl⟩, hp⟩
  refine ⟨_, rfl, ?_⟩
  replace hI := hI.pure hp
  refine WL_val rfl rfl rfl (by first | exact rMoveF rfl rfl | exact rMove rfl) ?_
  refine WL_call rfl rfl rfl (rCall (vs := [.slice _ _ _, .int .i64 _, .int .i64 _, .int .i64 _, .func _ _ _]) rfl Try.func14 rfl rfl rfl) ?_
  refine (pdq0_any A c z _).mono ?_
  rintro e w2 ⟨rfl, hp⟩
  refine ⟨_, rfl, ?_⟩
  replace hI := hI.pure hp
  refine WL_nil ?_
  exact ret0 (.inl rfl) rfl ⟨rfl, hI.pu⟩
end Go.Proofs.Ytfagfkgmibmanaa
