/- clock.senders. -/
import Derived.Test.YtajbhabkhgpcfaaDoorClk1
namespace Go.Proofs.YtajbhabkhgpcfaaDoor
open Go.RowKit
set_option linter.unusedVariables false
set_option linter.unusedSimpArgs false
/-- What errors.errorType holds. -/
abbrev GlobOk (w : World) : Prop := w.cell? ⟨0, 0, none⟩ = some (.iface 78 (.agg #[hdl 25]))
/-- An error that was made behind a world. -/
def FreshE (w0 : World) (e : Value) : Prop := ∀ b o : Nat, e = .iface 58 (.pointer (some ⟨b, o, none⟩)) → w0.heap.size ≤ b
theorem FreshE.num (w0 : World) (n : Int) : FreshE w0 (.iface 55 (.int .i64 n)) := fun b o h => by injection h with h; exact absurd h (by decide)
theorem FreshE.mk {w0 : World} {b : Nat} (h : w0.heap.size ≤ b) : FreshE w0 (.iface 58 (.pointer (some ⟨b, 0, none⟩))) := fun b' o he => by
  injection he with _ he
  injection he with he
  injection he with he
  injection he with he _
  omega
theorem IsE.form {w : World} {e : Value} {n : Int} (h : IsE w e n) : ∃ t u, e = .iface t u := by
  rcases h with rfl | ⟨b, o, rfl, _⟩ <;> exact ⟨_, _, rfl⟩
def optI : Option Nat → Int
  | none => -1
  | some k => (k : Nat)
abbrev cAt (l : List Ck) (k : Nat) : Ck := l.getD k ⟨0, 0, 0⟩
def Cks (w : World) (D : Nat → Prop) (v : Value) (l : List Ck) : Prop := Rd w D 3 v l.length (l.flatMap ckV)
theorem flat_ck : ∀ (l : List Ck) (k : Nat), k < l.length → ∀ (j : Nat) u, (ckV (cAt l k))[j]? = some u → (l.flatMap ckV)[k * 3 + j]? = some u
  | [], k, h, _, _, _ => by simp at h
  | s :: l, k, h, j, u, hu => by
    rw [List.flatMap_cons]
    cases k with
    | zero =>
      have : j < (ckV s).length := by have := (List.getElem?_eq_some_iff.1 hu).1; simpa using this
      rw [Nat.zero_mul, Nat.zero_add, List.getElem?_append_left this]
      simpa using hu
    | succ k =>
      have hl : (ckV s).length = 3 := rfl
      rw [List.getElem?_append_right (by omega), hl, show (k + 1) * 3 + j - 3 = k * 3 + j by omega]
      exact flat_ck l k (by simpa using h) j u (by simpa using hu)
theorem Cks.pure {w w' : World} {D : Nat → Prop} {v : Value} {l : List Ck} (h : Cks w D v l) (hp : Pure w w') : Cks w' D v l := Rd.pure h hp
theorem Cks.at {w : World} {D : Nat → Prop} {A : Option Addr} {n c : Nat} {l : List Ck} (h : Cks w D (.slice A n c) l) {k : Nat} (hk : k < l.length) : ∃ b o, A = some ⟨b, o, none⟩ ∧ w.cell? ⟨b, o + k * 3, none⟩ = some (.int .i64 (cAt l k).proc) ∧ w.cell? ⟨b, o + k * 3 + 1, none⟩ = some (.int .i64 (cAt l k).kind) ∧ w.cell? ⟨b, o + k * 3 + 2, none⟩ = some (.int .i64 (cAt l k).msg) := by
  have hn : n = l.length := by
    obtain ⟨A', c', he, _⟩ := Rd.form h
    injection he
  subst hn
  obtain ⟨b, o, h1, _, _, c0⟩ := Rd.get h (flat_ck l k hk 0 _ rfl) (by omega)
  obtain ⟨b1, o1, h2, _, _, c1⟩ := Rd.get h (flat_ck l k hk 1 _ rfl) (by omega)
  obtain ⟨b2, o2, h3, _, _, c2⟩ := Rd.get h (flat_ck l k hk 2 _ rfl) (by omega)
  rw [h1] at h2 h3
  injection h2 with h2; injection h2 with e1 e2; subst e1 e2
  injection h3 with h3; injection h3 with e1 e2; subst e1 e2
  exact ⟨b, o, h1, c0, by rw [← Nat.add_assoc] at c1; exact c1, by rw [← Nat.add_assoc] at c2; exact c2⟩
theorem Cks.len {w : World} {D : Nat → Prop} {A : Option Addr} {n c : Nat} {l : List Ck} (h : Cks w D (.slice A n c) l) : n = l.length ∧ n ≤ c ∧ c ≤ 9223372036854775807 := by
  obtain ⟨A', c', he, h1, h2⟩ := Rd.form h
  injection he with _ e2 e3
  subst e2 e3
  exact ⟨rfl, h1, h2⟩
def msgTo (kd : Int) (l : List Ck) : Nat → Int → Option Nat
  | 0 => fun _ => none
  | k + 1 => fun m => if m = (cAt l k).msg ∧ (cAt l k).kind = kd then some k else msgTo kd l k m
abbrev sentTo (l : List Ck) := msgTo 2 l
abbrev recvTo (l : List Ck) := msgTo 3 l
def okCk (l : List Ck) (k : Nat) : Prop := ckE (cAt l k) (sentTo l k (cAt l k).msg).isSome (recvTo l k (cAt l k).msg).isSome = none
instance (l : List Ck) (k : Nat) : Decidable (okCk l k) := inferInstanceAs (Decidable (_ = _))
def OkClk (l : List Ck) : Prop := l.length ≤ 40 ∧ ∀ k, k < l.length → okCk l k
def fromF (l : List Ck) (k : Nat) : Option Nat := if (cAt l k).kind = 3 then sentTo l k (cAt l k).msg else none
theorem msgTo_lt {kd : Int} {l : List Ck} : ∀ {k : Nat} {m : Int} {i : Nat}, msgTo kd l k m = some i → i < k
  | 0, m, i, h => by simp [msgTo] at h
  | k + 1, m, i, h => by
    simp only [msgTo] at h
    split at h
    · injection h with h; omega
    · have := msgTo_lt h; omega
theorem from_lt {l : List Ck} {k m : Nat} (h : fromF l k = some m) : m < k := by
  unfold fromF at h
  split at h
  · exact msgTo_lt h
  · cases h
def mapV (g : Int → Option Nat) : Int → Option Value := fun m => (g m).map fun i => .int .i64 ((i : Nat) : Int)
def fromsV (l : List Ck) (k : Nat) : List Value := (List.range k).map fun i => Value.int .i64 (optI (fromF l i))
theorem fromsV_succ (l : List Ck) (k : Nat) : fromsV l (k + 1) = fromsV l k ++ [.int .i64 (optI (fromF l k))] := by simp [fromsV, List.range_succ]
theorem ckE_none {s : Ck} {a b : Bool} (h : ckE s a b = none) : 0 ≤ s.proc ∧ s.proc < 8 ∧ 1 ≤ s.kind ∧ s.kind ≤ 3 ∧ (s.kind = 3 → a = true) := by
  unfold ckE at h
  split at h
  · cases h
  · split at h
    · cases h
    · split at h
      · cases h
      · split at h
        · cases h
        · rename_i h1 h2 h3 h4
          refine ⟨by omega, by omega, by omega, by omega, fun hk => ?_⟩
          cases a
          · exact absurd ⟨hk, rfl⟩ h4
          · rfl
theorem ckE_some {s : Ck} {a b : Bool} {n : Int} (h : ckE s a b = some n) : n ≠ 0 := by
  unfold ckE at h
  split at h
  · injection h with h; omega
  · split at h
    · injection h with h; omega
    · split at h
      · injection h with h; omega
      · split at h
        · injection h with h; omega
        · cases h
theorem msg_set {kd : Int} {l : List Ck} {k : Nat} (h : (cAt l k).kind = kd) : mapV (msgTo kd l (k + 1)) = fun j => if j = (cAt l k).msg then some (.int .i64 ((k : Nat) : Int)) else mapV (msgTo kd l k) j := by
  funext j
  simp only [mapV, msgTo]
  by_cases hj : j = (cAt l k).msg
  · rw [if_pos ⟨hj, h⟩, if_pos hj]; rfl
  · rw [if_neg (fun hh => hj hh.1), if_neg hj]
theorem msg_same {kd : Int} {l : List Ck} {k : Nat} (h : (cAt l k).kind ≠ kd) : msgTo kd l (k + 1) = msgTo kd l k := by
  funext j
  simp only [msgTo]
  rw [if_neg (fun hh => h hh.2)]
def SendersPost (l : List Ck) (w0 : World) (en : Ending) (w' : World) : Prop :=
  ((OkClk l ∧ ∃ A c, en = .returned (.tuple #[.slice A l.length c, .nilIface]) ∧ w'.ownsRow w0.heap.size 3 1 (.slice A l.length c) l.length (fromsV l l.length)) ∨
    (¬ OkClk l ∧ ∃ e n, en = .returned (.tuple #[.slice none 0 0, e]) ∧ IsE w' e n ∧ FreshE w0 e)) ∧ Pure w0 w'
set_option maxHeartbeats 2000000 in
theorem senders_any (A : Option Addr) (n c : Nat) (l : List Ck) (D : Nat → Prop) (w0 : World) (h : Cks w0 D (.slice A n c) l) (hg : GlobOk w0) :
    Calls Tryd.prog 15 #[.slice A n c] w0 (SendersPost l w0) := by
  obtain ⟨hn, hc1, hc2⟩ := h.len
  have hI : Inv (fun _ => False) w0 w0 [Row w0.heap.size 3 1 none 0 0 (fromsV l 0)] := (Inv.start (fun _ => False) w0).fresh (Pure.refl w0) (Row.nil w0 _ _ _) (fun k hk => by simp [Row] at hk)
  refine calls_of_W (N := Tryd.f15.ntmps) Tryd.func15 rfl rfl rfl ?_
  refine W_seq ?_
  refine W_region ?_
  refine WL_val rfl rfl rfl (by first | exact rAsgnS rfl rfl | exact rAsgn rfl) ?_
  refine WL_val rfl rfl rfl (by first | exact rAsgnN rfl rfl | exact rAsgnE rfl rfl | exact rAsgn rfl) ?_
  refine WL_nil ?_
  by_cases h40 : n ≤ 40
  rotate_left
  · refine W_seq ?_
    refine W_seq ?_
    refine W_region ?_
    refine WL_val rfl rfl rfl (by first | exact rMoveS rfl rfl | exact rMove rfl) ?_
    refine WL_val rfl rfl rfl (rLen rfl Tryd.underlying22 rfl) ?_
    refine WL_val rfl rfl rfl (by first | exact rGtrT rfl rfl rfl (by omega) | exact rGtrF rfl rfl rfl (by omega) | exact rGtr rfl rfl rfl) ?_
    refine WL_nil ?_
    refine W_cond true rfl ?_
    refine W_seq ?_
    refine W_region ?_
    refine WL_val rfl rfl rfl (rIface rfl Tryd.underlying55 rfl rfl) ?_
    refine WL_val rfl rfl rfl (by first | exact rAsgnS rfl rfl | exact rAsgn rfl) ?_
    refine WL_val rfl rfl rfl (by first | exact rAsgnN rfl rfl | exact rAsgnE rfl rfl | exact rAsgn rfl) ?_
    refine WL_nil ?_
    refine W_ret ?_
    exact ret2 2 3 (.inr rfl) rfl ⟨.inr ⟨fun h => by have := h.1; omega, _, 4, rfl, .inl rfl, FreshE.num _ _⟩, hI.pu⟩
  refine W_seq ?_
  refine W_seq ?_
  refine W_region ?_
  refine WL_val rfl rfl rfl (by first | exact rMoveS rfl rfl | exact rMove rfl) ?_
  refine WL_val rfl rfl rfl (rLen rfl Tryd.underlying22 rfl) ?_
  refine WL_val rfl rfl rfl (by first | exact rGtrT rfl rfl rfl (by omega) | exact rGtrF rfl rfl rfl (by omega) | exact rGtr rfl rfl rfl) ?_
  refine WL_nil ?_
  refine W_cond false rfl ?_
  refine W_skip ?_
  refine W_seq ?_
  refine W_region ?_
  refine WL_mkMap hI rfl rfl rfl rfl ?_
  clear hI; intro b15 w hI
  refine WL_mkMap hI rfl rfl rfl rfl ?_
  clear hI; intro b16 w hI
  refine WL_val rfl rfl rfl (by first | exact rAsgnM rfl rfl | exact rAsgn rfl) ?_
  refine WL_val rfl rfl rfl (by first | exact rAsgnM rfl rfl | exact rAsgn rfl) ?_
  refine WL_nil ?_
  refine W_seq ?_
  refine W_region ?_
  refine WL_val rfl rfl rfl (by first | exact rAsgnS rfl rfl | exact rAsgn rfl) ?_
  refine WL_nil ?_
  refine W_seq ?_
  refine W_seq ?_
  refine W_region ?_
  refine WL_val rfl rfl rfl (by first | exact rMoveS rfl rfl | exact rMove rfl) ?_
  refine WL_val rfl rfl rfl (rLen rfl Tryd.underlying22 rfl) ?_
  refine WL_val rfl rfl rfl (by first | exact rMoveI rfl rfl | exact rMove rfl) ?_
  refine WL_nil ?_
  refine W_block ?_
  refine W_loop (fun ρ w => ∃ (k : Nat) (A' : Option Addr) (c' : Nat), k ≤ n ∧ (∀ j, j < k → okCk l j) ∧ Has ρ [(19, .int .i64 (k : Int)), (18, .int .i64 (n : Int)), (17, .slice A n c), (4, .map (some b15)), (5, .map (some b16)), (6, .slice A' k c')] ∧ Inv (fun _ => False) w0 w [MapE b16 (mapV (recvTo l k)), MapE b15 (mapV (sentTo l k)), Row w0.heap.size 3 1 A' k c' (fromsV l k)]) (fun ρ _ => n - cnt (ρ 19))
    ⟨0, none, 0, by omega, fun j hj => by omega, ⟨rfl, rfl, rfl, rfl, rfl, rfl, trivial⟩, hI⟩ ?_
  clear hI
  rintro ρ w ⟨k, A', c', hk, hall, hH, hI⟩
  obtain ⟨σ, rfl⟩ := hH.open
  by_cases hkn : k < n
  rotate_left
  · obtain rfl : k = n := by omega
    refine W_seq ?_
    refine W_region ?_
    refine WL_val rfl rfl rfl (by first | exact rLssT rfl rfl rfl (by omega) | exact rLssF rfl rfl rfl (by omega) | exact rLss rfl rfl rfl) ?_
    refine WL_nil ?_
    refine W_seq ?_
    refine W_cond false rfl ?_
    refine W_exit ?_
    refine W_seq ?_
    refine W_region ?_
    refine WL_val rfl rfl rfl (by first | exact rMoveS rfl rfl | exact rMove rfl) ?_
    refine WL_val rfl rfl rfl (by first | exact rAsgnS rfl rfl | exact rAsgn rfl) ?_
    refine WL_val rfl rfl rfl (by first | exact rAsgnN rfl rfl | exact rAsgnE rfl rfl | exact rAsgn rfl) ?_
    refine WL_nil ?_
    refine W_ret ?_
    refine ret2 2 3 (.inr rfl) rfl ⟨.inl ⟨⟨by omega, fun j hj => hall j (by omega)⟩, A', c', by rw [← hn]; rfl, ?_⟩, hI.pu⟩
    rw [← hn]; exact hI.g2
  obtain ⟨bA, oA, rfl, q0, q1, q2⟩ := h.at (show k < l.length by omega)
  refine W_seq ?_
  refine W_region ?_
  refine WL_val rfl rfl rfl (by first | exact rLssT rfl rfl rfl (by omega) | exact rLssF rfl rfl rfl (by omega) | exact rLss rfl rfl rfl) ?_
  refine WL_nil ?_
  refine W_seq ?_
  refine W_cond true rfl ?_
  refine W_skip ?_
  refine W_seq ?_
  refine W_block ?_
  refine W_seq ?_
  refine W_region ?_
  refine WL_val rfl rfl rfl (by first | exact rMoveI rfl rfl | exact rMove rfl) ?_
  refine WL_val rfl rfl rfl (rIdx (sz := 3) rfl Tryd.underlying22 (by kernel_rfl) rfl rfl (by omega)) ?_
  refine WL_val rfl rfl rfl (by first | exact rLdB (n := 3) rfl (by kernel_rfl) (by kernel_rfl) rfl rfl hI.g0 | exact rLd3 rfl (by kernel_rfl) (by kernel_rfl) rfl (by first | exact hI.c0 rfl | exact hI.oldp q0 | exact q0 | exact hI.oldp q1 | exact q1 | exact hI.oldp q2 | exact q2) (by first | exact hI.c0 rfl | exact hI.oldp q0 | exact q0 | exact hI.oldp q1 | exact q1 | exact hI.oldp q2 | exact q2) (by first | exact hI.c0 rfl | exact hI.oldp q0 | exact q0 | exact hI.oldp q1 | exact q1 | exact hI.oldp q2 | exact q2)) ?_
  refine WL_alloc (u := .agg #[.int .i64 0, .int .i64 0, .int .i64 0]) (vs := #[.int .i64 0, .int .i64 0, .int .i64 0]) hI rfl rfl rfl rfl (by kernel_rfl) rfl ?_
  clear hI; rintro b8 w - - hI
  refine WL_val rfl rfl rfl (by first | exact rAsgnI rfl rfl | exact rAsgn rfl) ?_
  first | refine WL_stw0 (u := .agg _) (vs := #[_, _, _]) (n := 3) hI rfl rfl rfl rfl rfl rfl (by kernel_rfl) rfl rfl rfl ?_
  clear hI; intro w hI
  refine WL_nil ?_
  refine W_seq ?_
  refine W_seq ?_
  refine W_region ?_
  refine WL_val rfl rfl rfl (by first | exact rLdB (n := 3) rfl (by kernel_rfl) (by kernel_rfl) rfl rfl hI.g0 | exact rLd3 rfl (by kernel_rfl) (by kernel_rfl) rfl (by first | exact hI.c0 rfl) (by first | exact hI.c0 rfl) (by first | exact hI.c0 rfl)) ?_
  refine WL_val rfl rfl rfl (by first | exact rMoveM rfl rfl | exact rMove rfl) ?_
  refine WL_val rfl rfl rfl (by first | exact rMoveM rfl rfl | exact rMove rfl) ?_
  refine WL_call rfl rfl rfl (rCall (vs := [.agg _, .map _, .map _]) rfl Tryd.func20 rfl rfl rfl) ?_
  refine (checkStep_any (cAt l k) b15 b16 _ _ _ hI.g2 hI.g1).mono ?_
  rintro e w1 ⟨rfl, hp⟩
  refine ⟨_, rfl, ?_⟩
  replace hI := hI.pure hp
  refine WL_val rfl rfl rfl (by first | exact rAsgnN rfl rfl | exact rAsgnE rfl rfl | exact rAsgn rfl) ?_
  refine WL_nil ?_
  have hs1 : (mapV (sentTo l k) (cAt l k).msg).isSome = (sentTo l k (cAt l k).msg).isSome := by unfold mapV; cases sentTo l k (cAt l k).msg <;> rfl
  have hr1 : (mapV (recvTo l k) (cAt l k).msg).isSome = (recvTo l k (cAt l k).msg).isSome := by unfold mapV; cases recvTo l k (cAt l k).msg <;> rfl
  rw [hs1, hr1]
  cases hE : ckE (cAt l k) (sentTo l k (cAt l k).msg).isSome (recvTo l k (cAt l k).msg).isSome with
  | some m =>
    refine W_seq ?_
    refine W_region ?_
    refine WL_val rfl rfl rfl (by first | exact rMoveN rfl rfl | exact rMoveE rfl rfl | exact rMove rfl) ?_
    refine WL_val rfl rfl rfl (by first | exact rIfaceNe rfl Tryd.underlying25 rfl rfl | exact rNilNe rfl Tryd.underlying25 rfl) ?_
    refine WL_nil ?_
    refine W_cond true rfl ?_
    refine W_seq ?_
    refine W_region ?_
    refine WL_val rfl rfl rfl (by first | exact rMoveN rfl rfl | exact rMoveE rfl rfl | exact rMove rfl) ?_
    refine WL_call rfl rfl rfl (rCall (vs := [_]) rfl Tryd.func21 rfl rfl rfl) ?_
    refine (tell_any (.iface 55 (.int .i64 m)) m _ (.inl rfl) (hI.oldp hg)).mono ?_
    rintro e w1 ⟨rfl, hp⟩
    refine ⟨_, rfl, ?_⟩
    replace hI := hI.pure hp
    refine WL_val rfl rfl rfl (by first | exact rMoveI rfl rfl | exact rMove rfl) ?_
    refine WL_val rfl rfl rfl (rBuild (qs := [(0, .int .i64 _), (1, .int .i64 _)]) (vs := [_, _]) [.int .i64 0, .int .i64 0] [0, 1] rfl rfl rfl (fun _ => by kernel_rfl)) ?_
    refine WL_box (u := .agg _) (vs := #[_, _]) hI rfl rfl rfl rfl rfl rfl ?_
    clear hI; rintro b34 w - - hI
    refine WL_val rfl rfl rfl (rIface rfl Tryd.underlying58 rfl rfl) ?_
    refine WL_val rfl rfl rfl (by first | exact rAsgnS rfl rfl | exact rAsgn rfl) ?_
    refine WL_val rfl rfl rfl (by first | exact rAsgnN rfl rfl | exact rAsgnE rfl rfl | exact rAsgn rfl) ?_
    refine WL_nil ?_
    refine W_ret ?_
    refine ret2 2 3 (.inr rfl) rfl ⟨.inr ⟨fun ho => absurd (ho.2 k (by omega)) (by unfold okCk; rw [hE]; simp), _, m, rfl, .inr ⟨b34, 0, rfl, hI.c0 rfl⟩, FreshE.mk ((hI.own _ (List.mem_of_getElem? (i := 0) rfl) b34 rfl).resolve_left (fun h => h))⟩, hI.pu⟩
  | none =>
    have hall' : ∀ j, j < k + 1 → okCk l j := fun j hj => by
      rcases Nat.lt_or_ge j k with h1 | h1
      · exact hall j h1
      · have : j = k := by omega
        subst this; exact hE
    obtain ⟨p1, p2, p3, p4, p5⟩ := ckE_none hE
    refine W_seq ?_
    refine W_region ?_
    refine WL_val rfl rfl rfl (by first | exact rMoveN rfl rfl | exact rMoveE rfl rfl | exact rMove rfl) ?_
    refine WL_val rfl rfl rfl (by first | exact rIfaceNe rfl Tryd.underlying25 rfl rfl | exact rNilNe rfl Tryd.underlying25 rfl) ?_
    refine WL_nil ?_
    refine W_cond false rfl ?_
    refine W_skip ?_
    refine W_seq ?_
    refine W_region ?_
    refine WL_val rfl rfl rfl (by first | exact rAsgnI rfl rfl | exact rAsgn rfl) ?_
    refine WL_nil ?_
    refine W_seq ?_
    refine W_seq ?_
    refine W_region ?_
    refine WL_val rfl rfl rfl (by first | exact rFldN (off := 1) rfl (by kernel_rfl) rfl | exact rFld (off := 1) rfl (by kernel_rfl) rfl) ?_
    refine WL_val rfl rfl rfl (by first | exact rLd (v := .int .i64 _) rfl (by kernel_rfl) rfl (by first | exact hI.c0 rfl) | exact rLd rfl (by kernel_rfl) rfl (by first | exact hI.c0 rfl)) ?_
    refine WL_nil ?_
    by_cases k2 : (cAt l k).kind = 2
    · have hf : fromF l k = none := by unfold fromF; rw [if_neg (by omega)]
      have e2 := msg_set (kd := 2) (l := l) (k := k) k2
      have e3 := msg_same (kd := 3) (l := l) (k := k) (by omega)
      refine W_block ?_
      refine W_seq ?_
      refine W_region ?_
      refine WL_val rfl rfl rfl (by first | exact rEqlT rfl rfl rfl (by omega) | exact rEqlF rfl rfl rfl (by omega) | exact rEql rfl rfl rfl) ?_
      refine WL_val rfl rfl rfl (by first | exact rAsgnB rfl rfl | exact rAsgn rfl) ?_
      refine WL_nil ?_
      refine W_cond true rfl ?_
      refine W_region ?_
      refine WL_val rfl rfl rfl (by first | exact rMoveM rfl rfl | exact rMove rfl) ?_
      refine WL_val rfl rfl rfl (by first | exact rFldN (off := 2) rfl (by kernel_rfl) rfl | exact rFld (off := 2) rfl (by kernel_rfl) rfl) ?_
      refine WL_val rfl rfl rfl (by first | exact rLd (v := .int .i64 _) rfl (by kernel_rfl) rfl (by first | exact hI.c0 rfl) | exact rLd rfl (by kernel_rfl) rfl (by first | exact hI.c0 rfl)) ?_
      refine WL_val rfl rfl rfl (by first | exact rMoveI rfl rfl | exact rMove rfl) ?_
      refine WL_mapSet 2 rfl hI rfl rfl rfl Tryd.underlying56 Tryd.underlying3 rfl rfl rfl ?_
      clear hI; intro w hI
      refine WL_nil ?_
      replace hI : Inv (fun _ => False) w0 w [B b8 41 #[.int .i64 (cAt l k).proc, .int .i64 (cAt l k).kind, .int .i64 (cAt l k).msg], MapE b16 (mapV (recvTo l (k + 1))), MapE b15 (mapV (sentTo l (k + 1))), Row w0.heap.size 3 1 A' k c' (fromsV l k)] := by
        rw [show mapV (sentTo l (k + 1)) = _ from e2, show recvTo l (k + 1) = recvTo l k from e3]; exact hI
      have hfi : (-1 : Int) = optI (fromF l k) := by rw [hf]; rfl
      rw [hfi]
      have hsz : w0.heap.size ≤ w.heap.size := hI.chg.size
      refine W_region ?_
      refine WL_val rfl rfl rfl (by first | exact rMoveS rfl rfl | exact rMove rfl) ?_
      refine WL_val rfl rfl rfl (by first | exact rMoveI rfl rfl | exact rMove rfl) ?_
      refine WL_lit (vs := [_]) (qs := [(0, .int .i64 _)]) [.int .i64 0] [0] hI rfl rfl rfl rfl rfl rfl Tryd.underlying28 (fun _ => by kernel_rfl) ?_
      clear hI; rintro b56 w - - hI
      -- STOP: call ['Op.call', ('st', {'callee': ['Callee.builtin', 'Builtin.append'], 'args': ('arr', [['Operand.tmp', '54'], ['Operand.tmp', '56']]), 'argTypes': ('arr
      have hsz : w0.heap.size ≤ w.heap.size := hI.chg.size
      refine WL_app4 (z := .int .i64 0) (by_ := 8) (news := [.int .i64 (optI (fromF l k))]) hI rfl rfl rfl rfl rfl rfl Tryd.underlying28 (by kernel_rfl) rfl (by omega) rfl (fun i u hi => by match i, hi with | 0, hi => cases hi; exact hI.c0 rfl) rfl (by omega) (by omega) (by omega) ?_
      clear hI; rintro A2 c2 w hc1 hc2 hI
      refine WL_val rfl rfl rfl (by first | exact rAsgnS rfl rfl | exact rAsgn rfl) ?_
      refine WL_nil ?_
      replace hI := hI.d0.d0
      refine W_region ?_
      refine WL_val rfl rfl rfl (by first | exact rInc rfl rfl rfl (by omega) | exact rAdd rfl rfl rfl (by omega) | exact rAddW rfl rfl rfl) ?_
      refine WL_val rfl rfl rfl (by first | exact rMoveI rfl rfl | exact rMove rfl) ?_
      refine WL_nil ?_
      exact ⟨⟨k + 1, A2, c2, by omega, hall', ⟨rfl, rfl, rfl, rfl, rfl, rfl, trivial⟩, by rw [fromsV_succ]; exact hI⟩, by show n - ((k + 1 : Nat) : Int).toNat < n - (k : Int).toNat; omega⟩
    · by_cases k3 : (cAt l k).kind = 3
      · obtain ⟨i, hi⟩ := Option.isSome_iff_exists.1 (p5 k3)
        have hf : fromF l k = some i := by unfold fromF; rw [if_pos k3]; exact hi
        have e3 := msg_set (kd := 3) (l := l) (k := k) k3
        have e2 := msg_same (kd := 2) (l := l) (k := k) (by omega)
        have hgd : (mapV (sentTo l k) (cAt l k).msg).getD (.int .i64 0) = .int .i64 (optI (fromF l k)) := by rw [hf]; simp only [mapV, hi]; rfl
        refine W_block ?_
        refine W_seq ?_
        refine W_region ?_
        refine WL_val rfl rfl rfl (by first | exact rEqlT rfl rfl rfl (by omega) | exact rEqlF rfl rfl rfl (by omega) | exact rEql rfl rfl rfl) ?_
        refine WL_val rfl rfl rfl (by first | exact rAsgnB rfl rfl | exact rAsgn rfl) ?_
        refine WL_nil ?_
        refine W_cond false rfl ?_
        refine W_seq ?_
        refine W_region ?_
        refine WL_val rfl rfl rfl (by first | exact rEqlT rfl rfl rfl (by omega) | exact rEqlF rfl rfl rfl (by omega) | exact rEql rfl rfl rfl) ?_
        refine WL_val rfl rfl rfl (by first | exact rAsgnB rfl rfl | exact rAsgn rfl) ?_
        refine WL_nil ?_
        refine W_cond true rfl ?_
        refine W_region ?_
        refine WL_val rfl rfl rfl (by first | exact rMoveM rfl rfl | exact rMove rfl) ?_
        refine WL_val rfl rfl rfl (by first | exact rFldN (off := 2) rfl (by kernel_rfl) rfl | exact rFld (off := 2) rfl (by kernel_rfl) rfl) ?_
        refine WL_val rfl rfl rfl (by first | exact rLd (v := .int .i64 _) rfl (by kernel_rfl) rfl (by first | exact hI.c0 rfl) | exact rLd rfl (by kernel_rfl) rfl (by first | exact hI.c0 rfl)) ?_
        refine WL_val rfl rfl rfl (by first | exact rMoveI rfl rfl | exact rMove rfl) ?_
        refine WL_val rfl rfl rfl (by first | exact rMoveM rfl rfl | exact rMove rfl) ?_
        refine WL_val rfl rfl rfl (by first | exact rFldN (off := 2) rfl (by kernel_rfl) rfl | exact rFld (off := 2) rfl (by kernel_rfl) rfl) ?_
        refine WL_val rfl rfl rfl (by first | exact rLd (v := .int .i64 _) rfl (by kernel_rfl) rfl (by first | exact hI.c0 rfl) | exact rLd rfl (by kernel_rfl) rfl (by first | exact hI.c0 rfl)) ?_
        refine WL_val rfl rfl rfl (hgd ▸ rLook1 (zv := .int .i64 0) rfl Tryd.underlying56 Tryd.underlying3 (by kernel_rfl) rfl rfl hI.g2) ?_
        refine WL_mapSet 1 rfl hI rfl rfl rfl Tryd.underlying56 Tryd.underlying3 rfl rfl rfl ?_
        clear hI; intro w hI
        refine WL_val rfl rfl rfl (by first | exact rAsgnI rfl rfl | exact rAsgn rfl) ?_
        refine WL_nil ?_
        replace hI : Inv (fun _ => False) w0 w [B b8 41 #[.int .i64 (cAt l k).proc, .int .i64 (cAt l k).kind, .int .i64 (cAt l k).msg], MapE b16 (mapV (recvTo l (k + 1))), MapE b15 (mapV (sentTo l (k + 1))), Row w0.heap.size 3 1 A' k c' (fromsV l k)] := by
          rw [show mapV (recvTo l (k + 1)) = _ from e3, show sentTo l (k + 1) = sentTo l k from e2]; exact hI
        have hsz : w0.heap.size ≤ w.heap.size := hI.chg.size
        refine W_region ?_
        refine WL_val rfl rfl rfl (by first | exact rMoveS rfl rfl | exact rMove rfl) ?_
        refine WL_val rfl rfl rfl (by first | exact rMoveI rfl rfl | exact rMove rfl) ?_
        refine WL_lit (vs := [_]) (qs := [(0, .int .i64 _)]) [.int .i64 0] [0] hI rfl rfl rfl rfl rfl rfl Tryd.underlying28 (fun _ => by kernel_rfl) ?_
        clear hI; rintro b56 w - - hI
        -- STOP: call ['Op.call', ('st', {'callee': ['Callee.builtin', 'Builtin.append'], 'args': ('arr', [['Operand.tmp', '54'], ['Operand.tmp', '56']]), 'argTypes': ('arr
        have hsz : w0.heap.size ≤ w.heap.size := hI.chg.size
        refine WL_app4 (z := .int .i64 0) (by_ := 8) (news := [.int .i64 (optI (fromF l k))]) hI rfl rfl rfl rfl rfl rfl Tryd.underlying28 (by kernel_rfl) rfl (by omega) rfl (fun i u hi => by match i, hi with | 0, hi => cases hi; exact hI.c0 rfl) rfl (by omega) (by omega) (by omega) ?_
        clear hI; rintro A2 c2 w hc1 hc2 hI
        refine WL_val rfl rfl rfl (by first | exact rAsgnS rfl rfl | exact rAsgn rfl) ?_
        refine WL_nil ?_
        replace hI := hI.d0.d0
        refine W_region ?_
        refine WL_val rfl rfl rfl (by first | exact rInc rfl rfl rfl (by omega) | exact rAdd rfl rfl rfl (by omega) | exact rAddW rfl rfl rfl) ?_
        refine WL_val rfl rfl rfl (by first | exact rMoveI rfl rfl | exact rMove rfl) ?_
        refine WL_nil ?_
        exact ⟨⟨k + 1, A2, c2, by omega, hall', ⟨rfl, rfl, rfl, rfl, rfl, rfl, trivial⟩, by rw [fromsV_succ]; exact hI⟩, by show n - ((k + 1 : Nat) : Int).toNat < n - (k : Int).toNat; omega⟩
      · have hf : fromF l k = none := by unfold fromF; rw [if_neg k3]
        have e3 := msg_same (kd := 3) (l := l) (k := k) k3
        have e2 := msg_same (kd := 2) (l := l) (k := k) k2
        refine W_block ?_
        refine W_seq ?_
        refine W_region ?_
        refine WL_val rfl rfl rfl (by first | exact rEqlT rfl rfl rfl (by omega) | exact rEqlF rfl rfl rfl (by omega) | exact rEql rfl rfl rfl) ?_
        refine WL_val rfl rfl rfl (by first | exact rAsgnB rfl rfl | exact rAsgn rfl) ?_
        refine WL_nil ?_
        refine W_cond false rfl ?_
        refine W_seq ?_
        refine W_region ?_
        refine WL_val rfl rfl rfl (by first | exact rEqlT rfl rfl rfl (by omega) | exact rEqlF rfl rfl rfl (by omega) | exact rEql rfl rfl rfl) ?_
        refine WL_val rfl rfl rfl (by first | exact rAsgnB rfl rfl | exact rAsgn rfl) ?_
        refine WL_nil ?_
        refine W_cond false rfl ?_
        refine W_skip ?_
        replace hI : Inv (fun _ => False) w0 w1 [B b8 41 #[.int .i64 (cAt l k).proc, .int .i64 (cAt l k).kind, .int .i64 (cAt l k).msg], MapE b16 (mapV (recvTo l (k + 1))), MapE b15 (mapV (sentTo l (k + 1))), Row w0.heap.size 3 1 A' k c' (fromsV l k)] := by
          rw [show recvTo l (k + 1) = recvTo l k from e3, show sentTo l (k + 1) = sentTo l k from e2]; exact hI
        have hfi : (-1 : Int) = optI (fromF l k) := by rw [hf]; rfl
        rw [hfi]
        refine W_region ?_
        refine WL_val rfl rfl rfl (by first | exact rMoveS rfl rfl | exact rMove rfl) ?_
        refine WL_val rfl rfl rfl (by first | exact rMoveI rfl rfl | exact rMove rfl) ?_
        refine WL_lit (vs := [_]) (qs := [(0, .int .i64 _)]) [.int .i64 0] [0] hI rfl rfl rfl rfl rfl rfl Tryd.underlying28 (fun _ => by kernel_rfl) ?_
        clear hI; rintro b56 w - - hI
        -- STOP: call ['Op.call', ('st', {'callee': ['Callee.builtin', 'Builtin.append'], 'args': ('arr', [['Operand.tmp', '54'], ['Operand.tmp', '56']]), 'argTypes': ('arr
        have hsz : w0.heap.size ≤ w.heap.size := hI.chg.size
        refine WL_app4 (z := .int .i64 0) (by_ := 8) (news := [.int .i64 (optI (fromF l k))]) hI rfl rfl rfl rfl rfl rfl Tryd.underlying28 (by kernel_rfl) rfl (by omega) rfl (fun i u hi => by match i, hi with | 0, hi => cases hi; exact hI.c0 rfl) rfl (by omega) (by omega) (by omega) ?_
        clear hI; rintro A2 c2 w hc1 hc2 hI
        refine WL_val rfl rfl rfl (by first | exact rAsgnS rfl rfl | exact rAsgn rfl) ?_
        refine WL_nil ?_
        replace hI := hI.d0.d0
        refine W_region ?_
        refine WL_val rfl rfl rfl (by first | exact rInc rfl rfl rfl (by omega) | exact rAdd rfl rfl rfl (by omega) | exact rAddW rfl rfl rfl) ?_
        refine WL_val rfl rfl rfl (by first | exact rMoveI rfl rfl | exact rMove rfl) ?_
        refine WL_nil ?_
        exact ⟨⟨k + 1, A2, c2, by omega, hall', ⟨rfl, rfl, rfl, rfl, rfl, rfl, trivial⟩, by rw [fromsV_succ]; exact hI⟩, by show n - ((k + 1 : Nat) : Int).toNat < n - (k : Int).toNat; omega⟩
end Go.Proofs.YtajbhabkhgpcfaaDoor
