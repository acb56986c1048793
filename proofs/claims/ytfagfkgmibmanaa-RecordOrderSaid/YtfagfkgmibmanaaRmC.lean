/- record.Merge. -/
import Derived.Test.YtfagfkgmibmanaaRmB
namespace Go.Proofs.Ytfagfkgmibmanaa
open Go.RowKit
set_option linter.unusedVariables false
set_option linter.unusedSimpArgs false
/-! ### Inv: what a call takes and gives back -/
section
variable {S : Nat → Prop} {w0 w w' : World} {l H H' : List Ent}
def DL (l : List Ent) : Nat → Prop := fun k => ∃ e ∈ l, e.D k
theorem Inv.from (h : Inv S w0 w (l ++ H)) : Inv (DL l) w w l :=
  ⟨Chg.refl _ w, fun e he => h.ok e (by simp [he]), fun e he k hk => .inl ⟨e, he, hk⟩, (List.pairwise_append.1 h.apart).1⟩
theorem Inv.turnL (h : Inv S w0 w (l ++ H)) (h' : Inv (DL l) w w' H') : Inv S w0 w' (H' ++ H) := by
  obtain ⟨p1, p2, p3⟩ := List.pairwise_append.1 h.apart
  refine ⟨h.chg.trans' h'.chg fun k hk1 hk2 => ?_, fun x hx => ?_, fun x hx k hk => ?_, List.pairwise_append.2 ⟨h'.apart, p2, fun a ha b hb k h1 h2 => ?_⟩⟩
  · obtain ⟨e, he, hk2⟩ := hk2
    rcases h.own e (by simp [he]) k hk2 with h1 | h1
    · exact h1
    · omega
  · rcases List.mem_append.1 hx with hx | hx
    · exact h'.ok x hx
    · exact (h.ok x (by simp [hx])).chg h'.chg (fun k hk hk2 => by obtain ⟨e, he, hk2⟩ := hk2; exact p3 e he x hx k hk2 hk)
  · rcases List.mem_append.1 hx with hx | hx
    · rcases h'.own x hx k hk with ⟨e, he, h1⟩ | h1
      · exact h.own e (by simp [he]) k h1
      · exact .inr (Nat.le_trans h.chg.size h1)
    · exact h.own x (by simp [hx]) k hk
  · rcases h'.own a ha k h1 with ⟨e, he, h3⟩ | h3
    · exact p3 e he b hb k h3 h2
    · have := (h.ok b (by simp [hb])).2.1 k h2
      omega
end
/-- A stripe: where its tickets and its events lie; which events it has. -/
structure St where
  tA : Option Addr
  tc : Nat
  eA : Option Addr
  ec : Nat
  ids : List Nat
def St.cells (x : St) : List Value := [.slice x.tA x.ids.length x.tc, .slice x.eA x.ids.length x.ec]
def tkAt (ev : Nat → Ev) (i : Nat) : Tk := ((i : Int), ev i)
structure StOk (w : World) (D : Nat → Prop) (ev : Nat → Ev) (x : St) : Prop where
  tk : Ints w D (.slice x.tA x.ids.length x.tc) (x.ids.map fun i : Nat => (i : Int))
  evs : Evs w D (.slice x.eA x.ids.length x.ec) (x.ids.map ev)
  rise : x.ids.Pairwise (· < ·)
def tksV (ev : Nat → Ev) (al : List Nat) : List Value := (al.map (tkAt ev)).flatMap tkL
theorem tksV_snoc (ev : Nat → Ev) (al : List Nat) (i : Nat) : tksV ev (al ++ [i]) = tksV ev al ++ tkL (tkAt ev i) := by unfold tksV; simp
/-- A row of tickets as a block. -/
theorem row_tks {w : World} {n c : Nat} {A : Option Addr} {L : List Tk} (h : w.ownsRow 0 42 8 (.slice A n c) n (L.flatMap tkL)) (hn : 0 < n) (hl : L.length = n) : ∃ g junk, A = some ⟨g, 0, none⟩ ∧ Blk w g 42 (tksC L junk) := by
  obtain ⟨hlen, ⟨hv, h0⟩ | ⟨g, cap, cur, hv, _, hb, h1, h2, h3, h4⟩⟩ := h
  · omega
  · injection hv with e1 e2 e3
    subst e1
    refine ⟨g, cur.toList.drop (n * 8), rfl, ?_⟩
    have e : tksC L (cur.toList.drop (n * 8)) = cur := by
      unfold tksC
      rw [← h4, List.take_append_drop, Array.toArray_toList]
    rw [e]
    exact hb
theorem tks_at {L : List Tk} {junk : List Value} {g T : Nat} {w : World} (h : Blk w g T (tksC L junk)) {i : Nat} {x : Tk} (hi : L[i]? = some x) : ∀ (q : Nat) (u : Value), (tkL x)[q]? = some u → w.cell? ⟨g, 0 + i * 8 + q, none⟩ = some u := by
  intro q u hq
  have hq8 : q < 8 := (List.getElem?_eq_some_iff.1 hq).1
  have hil := (List.getElem?_eq_some_iff.1 hi).1
  rw [Nat.zero_add, h.cell]
  unfold tksC
  rw [show (L.flatMap tkL ++ junk).toArray[i * 8 + q]? = (L.flatMap tkL ++ junk)[i * 8 + q]? by simp, List.getElem?_append_left (by rw [tks_len]; omega), flatN (s := 8) (f := tkL) tkL_len L i x hi q hq8]
  exact hq
/-- Sorted tickets of all events are they in order. -/
theorem tks_order {ev : Nat → Ev} {n : Nat} {d : List Tk} (hp : d.Perm ((List.range n).map (tkAt ev))) (hs : d.Pairwise fun a b => a.1 ≤ b.1) : d = (List.range n).map (tkAt ev) := by
  refine List.Perm.eq_of_pairwise (le := fun a b : Tk => a.1 ≤ b.1) (fun a b ha hb h1 h2 => ?_) hs ?_ hp
  · obtain ⟨i, _, rfl⟩ := List.mem_map.1 (hp.mem_iff.1 ha)
    obtain ⟨j, _, rfl⟩ := List.mem_map.1 hb
    have h1 : (i : Int) ≤ (j : Int) := h1
    have h2 : (j : Int) ≤ (i : Int) := h2
    rw [show i = j by omega]
  · rw [List.pairwise_map]
    exact List.pairwise_lt_range.imp (fun {a b} h => by show (a : Int) ≤ (b : Int); omega)
theorem Inv.front {S : Nat → Prop} {w0 w : World} {L Ex : List Ent} (h : Inv S w0 w (L ++ Ex)) : Inv S w0 w L :=
  ⟨h.chg, fun e he => h.ok e (by simp [he]), fun e he => h.own e (by simp [he]), (List.pairwise_append.1 h.apart).1⟩
def idsTo (xs : List St) (k : Nat) : List Nat := (xs.take k).flatMap (·.ids)
theorem idsTo_succ {xs : List St} {k : Nat} {x : St} (h : xs[k]? = some x) : idsTo xs (k + 1) = idsTo xs k ++ x.ids := by
  unfold idsTo
  rw [List.take_add_one, h]
  simp
theorem idsTo_le {xs : List St} {k m : Nat} {x : St} (h : xs[k]? = some x) : (idsTo xs k ++ x.ids.take m).length ≤ (xs.flatMap (·.ids)).length := by
  have e : xs.flatMap (·.ids) = idsTo xs (k + 1) ++ (xs.drop (k + 1)).flatMap (·.ids) := by
    unfold idsTo
    rw [← List.flatMap_append, List.take_append_drop]
  rw [e, idsTo_succ h]
  simp only [List.length_append, List.length_take]
  omega
set_option maxHeartbeats 8000000 in
theorem merge_any (g : Nat) (xs : List St) (n : Nat) (ev : Nat → Ev) (D : Nat → Prop) (w0 : World) (hx : ∀ x ∈ xs, StOk w0 D ev x) (hcells : ∀ (i : Nat) x, xs[i]? = some x → ∀ (j : Nat) u, x.cells[j]? = some u → w0.cell? ⟨g, 0 + i * 2 + j, none⟩ = some u)
    (hl : xs.length = 4) (hp : (xs.flatMap (·.ids)).Perm (List.range n)) (hn60 : n ≤ 60) :
    Calls Try.prog 5 #[.slice (some ⟨g, 0, none⟩) 4 4] w0 fun en w' => ∃ A c, en = .returned (.tuple #[.slice A n c, .nilIface]) ∧ Inv (fun _ => False) w0 w' [Row 0 30 7 A n c ((List.range n).flatMap fun i => evL (ev i))] := by
  have hlen : (xs.flatMap (·.ids)).length = n := by rw [hp.length_eq, List.length_range]
  have hI := Inv.start (fun _ => False) w0
  refine calls_of_W (N := Try.f5.ntmps) Try.func5 rfl rfl rfl ?_
  refine W_seq ?_
  refine W_region ?_
  refine WL_val rfl rfl rfl (by first | exact rAsgnS rfl rfl | exact rAsgn rfl) ?_
  refine WL_val rfl rfl rfl (by first | exact rAsgnN rfl rfl | exact rAsgnE rfl rfl | exact rAsgn rfl) ?_
  refine WL_nil ?_
  refine W_seq ?_
  refine W_region ?_
  refine WL_val rfl rfl rfl (by first | exact rAsgnS rfl rfl | exact rAsgn rfl) ?_
  refine WL_nil ?_
  replace hI := hI.fresh (Pure.refl _) (Row.nil _ 0 42 8) (fun k hk => by cases hk)
  refine W_seq_cut (fun ρ w => ∃ (A1 : Option Addr) (c1 : Nat), Has ρ [(4, .slice A1 n c1)] ∧ Inv (fun _ => False) w0 w [Row 0 42 8 A1 n c1 (tksV ev (xs.flatMap (·.ids)))]) ?_ ?_
  · refine W_seq ?_
    refine W_region ?_
    refine WL_val rfl rfl rfl (by first | exact rMoveS rfl rfl | exact rMove rfl) ?_
    refine WL_val rfl rfl rfl (rLen rfl Try.underlying24 rfl) ?_
    refine WL_val rfl rfl rfl (by first | exact rMoveI rfl rfl | exact rMove rfl) ?_
    refine WL_nil ?_
    refine W_block ?_
    refine W_loopN (fun mu ρ w => ∃ (k : Nat) (A1 : Option Addr) (na c1 : Nat), mu = 4 - k ∧ k ≤ 4 ∧ (idsTo xs k).length = na ∧ Has ρ [(14, .int .i64 (k : Int)), (13, .int .i64 4), (12, .slice (some ⟨g, 0, none⟩) 4 4), (4, .slice A1 na c1)] ∧ Inv (fun _ => False) w0 w [Row 0 42 8 A1 na c1 (tksV ev (idsTo xs k))]) 4
      ⟨0, none, 0, 0, rfl, by omega, rfl, ⟨rfl, rfl, rfl, rfl, trivial⟩, hI⟩ ?_
    clear hI
    rintro mu ρ w ⟨k, A1, na, c1, rfl, hk, hna, hH, hI⟩
    obtain ⟨σ, rfl⟩ := hH.open
    by_cases hk4 : k < 4
    rotate_left
    · obtain rfl : k = 4 := by omega
      refine W_seq ?_
      refine W_region ?_
      refine WL_val rfl rfl rfl (by first | exact rLssT rfl rfl rfl (by omega) | exact rLssF rfl rfl rfl (by omega) | exact rLss rfl rfl rfl) ?_
      refine WL_nil ?_
      refine W_seq ?_
      refine W_cond false rfl ?_
      refine W_exit ?_
      have e : idsTo xs 4 = xs.flatMap (·.ids) := by unfold idsTo; rw [List.take_of_length_le (by omega)]
      rw [e] at hI hna
      have hna' : na = n := hna.symm.trans hlen
      subst hna'
      exact ⟨A1, c1, ⟨rfl, trivial⟩, hI⟩
    obtain ⟨x, hxk⟩ : ∃ x, xs[k]? = some x := ⟨_, List.getElem?_eq_getElem (by omega)⟩
    have hok := hx x (List.mem_of_getElem? hxk)
    have hcx := hcells k x hxk
    have hle := fun m => idsTo_le (m := m) hxk
    have hnext := idsTo_succ hxk
    obtain ⟨tA, tc, eA, ec, ids⟩ := x
    simp only [St.cells] at hcx
    simp only at hle hnext
    obtain ⟨hti, hte, hrise⟩ := hok
    simp only at hti hte hrise
    refine W_seq ?_
    refine W_region ?_
    refine WL_val rfl rfl rfl (by first | exact rLssT rfl rfl rfl (by omega) | exact rLssF rfl rfl rfl (by omega) | exact rLss rfl rfl rfl) ?_
    refine WL_nil ?_
    refine W_seq ?_
    refine W_cond true rfl ?_
    refine W_skip ?_
    refine W_seq ?_
    refine W_block ?_
    refine W_seq ?_
    refine W_region ?_
    refine WL_val rfl rfl rfl (rIdx (sz := 2) (i := k) rfl Try.underlying24 (by kernel_rfl) rfl rfl (by omega)) ?_
    refine WL_val rfl rfl rfl (by first | exact rLdB (n := 2) rfl (by kernel_rfl) (by kernel_rfl) rfl rfl hI.g0 | exact rLdA (n := 2) rfl (by kernel_rfl) (by kernel_rfl) rfl (by rfl) (fun k u hk => hI.oldp (hcx k u hk)) | exact rLdA (n := 2) rfl (by kernel_rfl) (by kernel_rfl) rfl (by rfl) hcx | exact rLd2 rfl (by kernel_rfl) (by kernel_rfl) rfl (by first | exact hI.c0 rfl) (by first | exact hI.c0 rfl)) ?_
    refine WL_alloc (u := .agg #[.slice none 0 0, .slice none 0 0]) (vs := #[.slice none 0 0, .slice none 0 0]) hI rfl rfl rfl rfl (by kernel_rfl) rfl ?_
    clear hI; rintro b6 w - - hI
    first | refine WL_stw0 (u := .agg _) (vs := #[_, _]) (n := 2) hI rfl rfl rfl rfl rfl rfl (by kernel_rfl) rfl rfl rfl ?_
    clear hI; intro w hI
    refine WL_nil ?_
    refine W_seq ?_
    refine W_seq ?_
    refine W_region ?_
    refine WL_val rfl rfl rfl (by first | exact rFldN (off := 0) rfl (by kernel_rfl) rfl | exact rFld0 rfl (by kernel_rfl) rfl) ?_
    refine WL_val rfl rfl rfl (by first | exact rLd (v := .slice _ _ _) rfl (by kernel_rfl) rfl (by first | exact hI.c0 rfl | exact hI.c1 rfl) | exact rLd rfl (by kernel_rfl) rfl (by first | exact hI.c0 rfl | exact hI.c1 rfl)) ?_
    refine WL_val rfl rfl rfl (rLen rfl Try.underlying23 rfl) ?_
    refine WL_val rfl rfl rfl (by first | exact rFldN (off := 1) rfl (by kernel_rfl) rfl | exact rFld (off := 1) rfl (by kernel_rfl) rfl) ?_
    refine WL_val rfl rfl rfl (by first | exact rLd (v := .slice _ _ _) rfl (by kernel_rfl) rfl (by first | exact hI.c0 rfl | exact hI.c1 rfl) | exact rLd rfl (by kernel_rfl) rfl (by first | exact hI.c0 rfl | exact hI.c1 rfl)) ?_
    refine WL_val rfl rfl rfl (rLen rfl Try.underlying22 rfl) ?_
    refine WL_val rfl rfl rfl (by first | exact rNeqT rfl rfl rfl (by omega) | exact rNeqF rfl rfl rfl (by omega) | exact rNeq rfl rfl rfl) ?_
    refine WL_nil ?_
    refine W_cond false rfl ?_
    refine W_skip ?_
    refine W_seq ?_
    refine W_region ?_
    refine WL_val rfl rfl rfl (by first | exact rFldN (off := 0) rfl (by kernel_rfl) rfl | exact rFld0 rfl (by kernel_rfl) rfl) ?_
    refine WL_val rfl rfl rfl (by first | exact rLd (v := .slice _ _ _) rfl (by kernel_rfl) rfl (by first | exact hI.c0 rfl | exact hI.c1 rfl) | exact rLd rfl (by kernel_rfl) rfl (by first | exact hI.c0 rfl | exact hI.c1 rfl)) ?_
    refine WL_val rfl rfl rfl (rLen rfl Try.underlying23 rfl) ?_
    refine WL_val rfl rfl rfl (by first | exact rMoveI rfl rfl | exact rMove rfl) ?_
    refine WL_nil ?_
    refine W_block ?_
    refine W_loopN (fun mu ρ w => ∃ (m : Nat) (A2 : Option Addr) (nb c2 : Nat), mu = ids.length - m ∧ m ≤ ids.length ∧ (idsTo xs k ++ ids.take m).length = nb ∧ Has ρ [(29, .int .i64 (m : Int)), (28, .int .i64 (ids.length : Int)), (27, .slice tA ids.length tc), (6, .pointer (some ⟨b6, 0, none⟩)), (14, .int .i64 (k : Int)), (13, .int .i64 4), (12, .slice (some ⟨g, 0, none⟩) 4 4), (4, .slice A2 nb c2)] ∧ Inv (fun _ => False) w0 w [B b6 27 #[.slice tA ids.length tc, .slice eA ids.length ec], Row 0 42 8 A2 nb c2 (tksV ev (idsTo xs k ++ ids.take m))]) ids.length
      ⟨0, A1, na, c1, rfl, by omega, by simpa using hna, ⟨rfl, rfl, rfl, rfl, rfl, rfl, rfl, rfl, trivial⟩, by rw [List.take_zero, List.append_nil]; exact hI⟩ ?_
    clear hI
    rintro mu ρ w ⟨m, A2, nb, c2, rfl, hm, hnb, hH, hI⟩
    obtain ⟨σ, rfl⟩ := hH.open
    by_cases hml : m < ids.length
    rotate_left
    · obtain rfl : m = ids.length := by omega
      refine W_seq ?_
      refine W_region ?_
      refine WL_val rfl rfl rfl (by first | exact rLssT rfl rfl rfl (by omega) | exact rLssF rfl rfl rfl (by omega) | exact rLss rfl rfl rfl) ?_
      refine WL_nil ?_
      refine W_seq ?_
      refine W_cond false rfl ?_
      refine W_exit ?_
      refine W_region ?_
      refine WL_val rfl rfl rfl (by first | exact rInc rfl rfl rfl (by omega) | exact rAdd rfl rfl rfl (by omega) | exact rAddW rfl rfl rfl) ?_
      refine WL_val rfl rfl rfl (by first | exact rMoveI rfl rfl | exact rMove rfl) ?_
      refine WL_nil ?_
      rw [List.take_of_length_le (Nat.le_refl _), ← hnext] at hI hnb
      exact ⟨4 - (k + 1), by omega, k + 1, A2, nb, c2, rfl, by omega, hnb, ⟨rfl, rfl, rfl, rfl, trivial⟩, hI.d0⟩
    have hb60 : nb ≤ 60 := by have := hle m; omega
    have hm60 : m ≤ 60 := by
      have h1 := hnb
      simp only [List.length_append, List.length_take] at h1
      omega
    obtain ⟨id, hid⟩ : ∃ i, ids[m]? = some i := ⟨_, List.getElem?_eq_getElem hml⟩
    obtain ⟨bt, ot, rfl, _, _, hut⟩ := hti.get (k := m) (by simpa using hml)
    have hidv : (ids.map fun i : Nat => (i : Int))[m]'(by simpa using hml) = (id : Int) := by
      have := List.getElem?_eq_getElem hml
      rw [hid] at this
      injection this with this
      simp [this]
    rw [hidv] at hut
    obtain ⟨be, oe, rfl, _, hue⟩ := hte.get (k := m) (e := ev id) (by rw [List.getElem?_map, hid]; rfl)
    have htake : idsTo xs k ++ ids.take (m + 1) = (idsTo xs k ++ ids.take m) ++ [id] := by
      rw [List.take_add_one, hid, List.append_assoc]
      rfl
    refine W_seq ?_
    refine W_region ?_
    refine WL_val rfl rfl rfl (by first | exact rLssT rfl rfl rfl (by omega) | exact rLssF rfl rfl rfl (by omega) | exact rLss rfl rfl rfl) ?_
    refine WL_nil ?_
    refine W_seq ?_
    refine W_cond true rfl ?_
    refine W_skip ?_
    refine W_seq ?_
    refine W_block ?_
    refine W_seq ?_
    refine W_region ?_
    refine WL_val rfl rfl rfl (by first | exact rMoveI rfl rfl | exact rMove rfl) ?_
    refine WL_val rfl rfl rfl (by first | exact rIdx0 rfl Try.underlying23 (by kernel_rfl) rfl rfl rfl (by omega) | exact rIdx1 rfl Try.underlying23 (by kernel_rfl) rfl rfl (by omega)) ?_
    refine WL_val rfl rfl rfl (by first | exact rLd (v := .int .i64 _) rfl (by kernel_rfl) rfl (by first | exact hI.c0 rfl | exact hI.oldp hut | exact hut) | exact rLd rfl (by kernel_rfl) rfl (by first | exact hI.c0 rfl | exact hI.oldp hut | exact hut)) ?_
    refine WL_val rfl rfl rfl (by first | exact rAsgnI rfl rfl | exact rAsgn rfl) ?_
    refine WL_val rfl rfl rfl (by first | exact rAsgnI rfl rfl | exact rAsgn rfl) ?_
    refine WL_nil ?_
    refine W_seq_cut (fun ρ w => Has ρ [(7, .int .i64 (m : Int)), (8, .int .i64 (id : Int)), (29, .int .i64 (m : Int)), (28, .int .i64 (ids.length : Int)), (27, .slice (some ⟨bt, ot, none⟩) ids.length tc), (6, .pointer (some ⟨b6, 0, none⟩)), (14, .int .i64 (k : Int)), (13, .int .i64 4), (12, .slice (some ⟨g, 0, none⟩) 4 4), (4, .slice A2 nb c2)] ∧ Inv (fun _ => False) w0 w [B b6 27 #[.slice (some ⟨bt, ot, none⟩) ids.length tc, .slice (some ⟨be, oe, none⟩) ids.length ec], Row 0 42 8 A2 nb c2 (tksV ev (idsTo xs k ++ ids.take m))]) ?_ ?_
    · by_cases hm0 : m = 0
      · subst hm0
        refine W_seq ?_
        refine W_region ?_
        refine WL_val rfl rfl rfl (by first | exact rMoveI rfl rfl | exact rMove rfl) ?_
        refine WL_val rfl rfl rfl (by first | exact rGtrT rfl rfl rfl (by omega) | exact rGtrF rfl rfl rfl (by omega) | exact rGtr rfl rfl rfl) ?_
        refine WL_val rfl rfl rfl (by first | exact rMoveB rfl rfl | exact rMove rfl) ?_
        refine WL_skip rfl rfl rfl ?_
        refine WL_skip rfl rfl rfl ?_
        refine WL_skip rfl rfl rfl ?_
        refine WL_skip rfl rfl rfl ?_
        refine WL_skip rfl rfl rfl ?_
        refine WL_skip rfl rfl rfl ?_
        refine WL_skip rfl rfl rfl ?_
        refine WL_skip rfl rfl rfl ?_
        refine WL_val rfl rfl rfl (by first | exact rPickTB rfl rfl rfl | exact rPickFB rfl rfl rfl | exact rPickB rfl rfl rfl rfl) ?_
        refine WL_nil ?_
        refine W_cond false rfl ?_
        refine W_skip ?_
        exact ⟨⟨rfl, rfl, rfl, rfl, rfl, rfl, rfl, rfl, rfl, rfl, trivial⟩, hI⟩
      · obtain ⟨m', rfl⟩ : ∃ m', m = m' + 1 := ⟨m - 1, by omega⟩
        obtain ⟨id', hid'⟩ : ∃ i, ids[m']? = some i := ⟨_, List.getElem?_eq_getElem (by omega)⟩
        obtain ⟨bt', ot', hbt, _, _, hut'⟩ := hti.get (k := m') (by simp; omega)
        injection hbt with hbt
        injection hbt with e1 e2
        subst e1 e2
        have hidv' : (ids.map fun i : Nat => (i : Int))[m']'(by simp; omega) = (id' : Int) := by
          have := List.getElem?_eq_getElem (show m' < ids.length by omega)
          rw [hid'] at this
          injection this with this
          simp [this]
        rw [hidv'] at hut'
        have hlt : id' < id := by
          have h1 := List.pairwise_iff_getElem.1 hrise m' (m' + 1) (by omega) hml (by omega)
          have e1 := List.getElem?_eq_getElem (show m' < ids.length by omega)
          have e2 := List.getElem?_eq_getElem hml
          rw [hid'] at e1
          rw [hid] at e2
          injection e1 with e1
          injection e2 with e2
          omega
        refine W_seq ?_
        refine W_region ?_
        refine WL_val rfl rfl rfl (by first | exact rMoveI rfl rfl | exact rMove rfl) ?_
        refine WL_val rfl rfl rfl (by first | exact rGtrT rfl rfl rfl (by omega) | exact rGtrF rfl rfl rfl (by omega) | exact rGtr rfl rfl rfl) ?_
        refine WL_val rfl rfl rfl (by first | exact rMoveB rfl rfl | exact rMove rfl) ?_
        first | refine WL_val rfl rfl rfl (by first | exact rMoveI rfl rfl | exact rMove rfl) ?_ | refine WL_skip rfl rfl rfl ?_
        first | refine WL_val rfl rfl rfl (by first | exact rFldN (off := 0) rfl (by kernel_rfl) rfl | exact rFld0 rfl (by kernel_rfl) rfl) ?_ | refine WL_skip rfl rfl rfl ?_
        first | refine WL_val rfl rfl rfl (by first | exact rLd (v := .slice _ _ _) rfl (by kernel_rfl) rfl (by first | exact hI.c0 rfl | exact hI.oldp hut' | exact hut') | exact rLd rfl (by kernel_rfl) rfl (by first | exact hI.c0 rfl | exact hI.oldp hut' | exact hut')) ?_ | refine WL_skip rfl rfl rfl ?_
        first | refine WL_val rfl rfl rfl (by first | exact rMoveI rfl rfl | exact rMove rfl) ?_ | refine WL_skip rfl rfl rfl ?_
        first | refine WL_val rfl rfl rfl (rDecN (b := 1) rfl rfl rfl (by omega) (by omega)) ?_ | refine WL_skip rfl rfl rfl ?_
        first | refine WL_val rfl rfl rfl (by first | exact rIdx0 rfl Try.underlying23 (by kernel_rfl) rfl rfl rfl (by omega) | exact rIdx1 rfl Try.underlying23 (by kernel_rfl) rfl rfl (by omega)) ?_ | refine WL_skip rfl rfl rfl ?_
        first | refine WL_val rfl rfl rfl (by first | exact rLd (v := .int .i64 _) rfl (by kernel_rfl) rfl (by first | exact hI.c0 rfl | exact hI.oldp hut' | exact hut') | exact rLd rfl (by kernel_rfl) rfl (by first | exact hI.c0 rfl | exact hI.oldp hut' | exact hut')) ?_ | refine WL_skip rfl rfl rfl ?_
        first | refine WL_val rfl rfl rfl (by first | exact rLeqT rfl rfl rfl (by omega) | exact rLeqF rfl rfl rfl (by omega) | exact rLeq rfl rfl rfl) ?_ | refine WL_skip rfl rfl rfl ?_
        refine WL_val rfl rfl rfl (by first | exact rPickTB rfl rfl rfl | exact rPickFB rfl rfl rfl | exact rPickB rfl rfl rfl rfl) ?_
        refine WL_nil ?_
        refine W_cond false rfl ?_
        refine W_skip ?_
        exact ⟨⟨rfl, rfl, rfl, rfl, rfl, rfl, rfl, rfl, rfl, rfl, trivial⟩, hI⟩
    clear hI
    rintro ρ w ⟨hH, hI⟩
    obtain ⟨σ, rfl⟩ := hH.open
    refine W_region ?_
    refine WL_val rfl rfl rfl (by first | exact rMoveS rfl rfl | exact rMove rfl) ?_
    refine WL_val rfl rfl rfl (by first | exact rMoveI rfl rfl | exact rMove rfl) ?_
    refine WL_val rfl rfl rfl (by first | exact rFldN (off := 1) rfl (by kernel_rfl) rfl | exact rFld (off := 1) rfl (by kernel_rfl) rfl) ?_
    refine WL_val rfl rfl rfl (by first | exact rLd (v := .slice _ _ _) rfl (by kernel_rfl) rfl (by first | exact hI.c0 rfl) | exact rLd rfl (by kernel_rfl) rfl (by first | exact hI.c0 rfl)) ?_
    refine WL_val rfl rfl rfl (by first | exact rMoveI rfl rfl | exact rMove rfl) ?_
    refine WL_val rfl rfl rfl (rIdx (sz := 7) (i := m) rfl Try.underlying22 (by kernel_rfl) rfl rfl (by omega)) ?_
    refine WL_val rfl rfl rfl (by first | exact rLdB (n := 7) rfl (by kernel_rfl) (by kernel_rfl) rfl rfl hI.g0 | exact rLdA (n := 7) rfl (by kernel_rfl) (by kernel_rfl) rfl (by rfl) (fun k u hk => hI.oldp (hue k u hk)) | exact rLdA (n := 7) rfl (by kernel_rfl) (by kernel_rfl) rfl (by rfl) hue) ?_
    refine WL_val rfl rfl rfl (rBuild (qs := [(0, .int .i64 _), (1, .agg #[_, _, _, _, _, _, _])]) (vs := [_, _, _, _, _, _, _, _]) [.int .i64 0, .int .i64 0, .int .i64 0, .int .i64 0, .int .i64 0, .int .i64 0, .int .i64 0, .int .i64 0] [0, 1] rfl rfl rfl (fun _ => by kernel_rfl)) ?_
    refine WL_lit (vs := [_, _, _, _, _, _, _, _]) (qs := [(0, .agg #[_, _, _, _, _, _, _, _])]) [.int .i64 0, .int .i64 0, .int .i64 0, .int .i64 0, .int .i64 0, .int .i64 0, .int .i64 0, .int .i64 0] [0] hI rfl rfl rfl rfl rfl rfl Try.underlying39 (fun _ => by kernel_rfl) ?_
    clear hI; rintro b55 w - - hI
    first | refine WL_app2 (z := .agg #[.int .i64 0, .int .i64 0, .int .i64 0, .int .i64 0, .int .i64 0, .int .i64 0, .int .i64 0, .int .i64 0]) (by_ := 64) hI rfl rfl rfl rfl rfl rfl Try.underlying39 (by kernel_rfl) rfl (by omega) (by rfl) hI.lit0 (by first | rfl | simp [i64s, Value.oneCell']) (by omega) (by omega) (by first | exact Nat.zero_le _ | (have := hI.chg.size; omega)) ?_
    clear hI; rintro A56 c56 w hA56 hc56 hI
    replace hI := hI.d0
    refine WL_val rfl rfl rfl (by first | exact rAsgnS rfl rfl | exact rAsgn rfl) ?_
    refine WL_nil ?_
    refine W_region ?_
    refine WL_val rfl rfl rfl (by first | exact rInc rfl rfl rfl (by omega) | exact rAdd rfl rfl rfl (by omega) | exact rAddW rfl rfl rfl) ?_
    refine WL_val rfl rfl rfl (by first | exact rMoveI rfl rfl | exact rMove rfl) ?_
    refine WL_nil ?_
    exact ⟨ids.length - (m + 1), by omega, m + 1, _, nb + 1, _, rfl, by omega, by rw [htake, List.length_append, hnb]; rfl, ⟨rfl, rfl, rfl, rfl, rfl, rfl, rfl, rfl, trivial⟩, by rw [htake, tksV_snoc]; exact hI⟩
  clear hI
  rintro ρ w ⟨A1, c1, hH, hI⟩
  obtain ⟨σ, rfl⟩ := hH.open
  refine W_seq_cut (fun ρ w => ∃ Ex : List Ent, Has ρ [(4, .slice A1 n c1)] ∧ Inv (fun _ => False) w0 w Ex ∧ ∀ w' L, Inv (fun _ => False) w0 w' (L ++ Ex) → ∀ i, i < n → ∃ b o, A1 = some ⟨b, o, none⟩ ∧ ∀ (j : Nat) u, (tkL (tkAt ev i))[j]? = some u → w'.cell? ⟨b, o + i * 8 + j, none⟩ = some u) ?_ ?_
  · by_cases hn0 : n = 0
    · subst hn0
      refine W_region ?_
      refine WL_val rfl rfl rfl (by first | exact rMoveS rfl rfl | exact rMove rfl) ?_
      refine WL_call rfl rfl rfl (rCall (vs := [.slice _ _ _, .func _ _ _]) rfl Try.func8 rfl rfl rfl) ?_
      refine (sort0_any A1 c1 _).mono ?_
      rintro e w1 ⟨rfl, hpu⟩
      refine ⟨_, rfl, ?_⟩
      replace hI := hI.pure hpu
      refine WL_nil ?_
      exact ⟨_, ⟨rfl, trivial⟩, hI.d0, fun _ _ _ i hi => by omega⟩
    · obtain ⟨gt, junk, rfl, hb⟩ := row_tks (L := (xs.flatMap (·.ids)).map (tkAt ev)) (show w.ownsRow 0 42 8 (.slice A1 n c1) n (((xs.flatMap (·.ids)).map (tkAt ev)).flatMap tkL) from hI.g0) (by omega) (by rw [List.length_map]; exact hlen)
      replace hI : Inv (fun _ => False) w0 w [B gt 42 (tksC ((xs.flatMap (·.ids)).map (tkAt ev)) junk)] := hI.upd 0 rfl (Chg.refl _ _) (B.ok hb) (fun k hk => .inl (by have e : k = gt := hk; subst e; rfl))
      refine W_region ?_
      refine WL_val rfl rfl rfl (by first | exact rMoveS rfl rfl | exact rMove rfl) ?_
      refine WL_call rfl rfl rfl (rCall (vs := [.slice _ _ _, .func _ _ _]) rfl Try.func8 rfl rfl rfl) ?_
      refine (sortT_any gt n c1 _ junk _ _ (by rw [List.length_map]; exact hlen) (by omega) (Inv.from (l := [B gt 42 (tksC ((xs.flatMap (·.ids)).map (tkAt ev)) junk)]) (H := []) hI)).mono ?_
      rintro e w1 ⟨rfl, d', q1, q2, q3⟩
      refine ⟨_, rfl, ?_⟩
      replace hI := Inv.turnL (l := [B gt 42 (tksC ((xs.flatMap (·.ids)).map (tkAt ev)) junk)]) (H := []) hI q3
      refine WL_nil ?_
      have hd := tks_order (q1.trans (hp.map (tkAt ev))) q2
      subst hd
      replace hI : Inv (fun _ => False) w0 w1 [B gt 42 (tksC ((List.range n).map (tkAt ev)) junk)] := hI
      refine ⟨_, ⟨rfl, trivial⟩, hI, fun w' L hJ i hi => ⟨gt, 0, rfl, ?_⟩⟩
      have hB : Blk w' gt 42 (tksC ((List.range n).map (tkAt ev)) junk) := (hJ.ok (B gt 42 (tksC ((List.range n).map (tkAt ev)) junk)) (by simp)).1
      exact tks_at hB (by rw [List.getElem?_map, List.getElem?_range hi]; rfl)
  clear hI
  rintro ρ w ⟨Ex, hH, hI, hEx⟩
  obtain ⟨σ, rfl⟩ := hH.open
  refine W_seq ?_
  refine W_region ?_
  refine WL_val rfl rfl rfl (by first | exact rAsgnS rfl rfl | exact rAsgn rfl) ?_
  refine WL_nil ?_
  replace hI := hI.fresh (Pure.refl _) (Row.nil _ 0 30 7) (fun k hk => by cases hk)
  refine W_seq ?_
  refine W_seq ?_
  refine W_region ?_
  refine WL_val rfl rfl rfl (by first | exact rMoveS rfl rfl | exact rMove rfl) ?_
  refine WL_val rfl rfl rfl (rLen rfl Try.underlying39 rfl) ?_
  refine WL_val rfl rfl rfl (by first | exact rMoveI rfl rfl | exact rMove rfl) ?_
  refine WL_nil ?_
  refine W_block ?_
  refine W_loopN (fun mu ρ w => ∃ (k : Nat) (A2 : Option Addr) (c2 : Nat), mu = n - k ∧ k ≤ n ∧ Has ρ [(63, .int .i64 (k : Int)), (62, .int .i64 (n : Int)), (61, .slice A1 n c1), (9, .slice A2 k c2), (4, .slice A1 n c1)] ∧ Inv (fun _ => False) w0 w (Row 0 30 7 A2 k c2 ((List.range k).flatMap fun i => evL (ev i)) :: Ex)) n
    ⟨0, none, 0, rfl, by omega, ⟨rfl, rfl, rfl, rfl, rfl, trivial⟩, hI⟩ ?_
  clear hI
  rintro mu ρ w ⟨k, A2, c2, rfl, hk, hH, hI⟩
  obtain ⟨σ, rfl⟩ := hH.open
  by_cases hkn : k < n
  rotate_left
  · obtain rfl : k = n := by omega
    refine W_seq ?_
    refine W_region ?_
    refine WL_val rfl rfl rfl (by first | exact rLssT rfl rfl rfl (by omega) | exact rLssF rfl rfl rfl (by omega) | exact rLss rfl rfl rfl) ?_
    refine WL_nil ?_
    refine W_seq ?_
    refine W_cond false rfl ?_
    refine W_exit ?_
    refine W_seq ?_
    refine W_region ?_
    refine WL_val rfl rfl rfl (by first | exact rMoveS rfl rfl | exact rMove rfl) ?_
    refine WL_val rfl rfl rfl (by first | exact rAsgnS rfl rfl | exact rAsgn rfl) ?_
    refine WL_val rfl rfl rfl (by first | exact rAsgnN rfl rfl | exact rAsgnE rfl rfl | exact rAsgn rfl) ?_
    refine WL_nil ?_
    refine W_ret ?_
    exact ret2 2 3 (.inr rfl) rfl ⟨A2, c2, rfl, Inv.front (L := [Row 0 30 7 A2 k c2 ((List.range k).flatMap fun i => evL (ev i))]) hI⟩
  obtain ⟨bt, ot, rfl, hut⟩ := hEx _ [_] hI k hkn
  refine W_seq ?_
  refine W_region ?_
  refine WL_val rfl rfl rfl (by first | exact rLssT rfl rfl rfl (by omega) | exact rLssF rfl rfl rfl (by omega) | exact rLss rfl rfl rfl) ?_
  refine WL_nil ?_
  refine W_seq ?_
  refine W_cond true rfl ?_
  refine W_skip ?_
  refine W_seq ?_
  refine W_block ?_
  refine W_seq ?_
  refine W_region ?_
  refine WL_val rfl rfl rfl (by first | exact rMoveI rfl rfl | exact rMove rfl) ?_
  refine WL_val rfl rfl rfl (rIdx (sz := 8) (i := k) rfl Try.underlying39 (by kernel_rfl) rfl rfl (by omega)) ?_
  refine WL_val rfl rfl rfl (by first | exact rLdB (n := 8) rfl (by kernel_rfl) (by kernel_rfl) rfl rfl hI.g0 | exact rLdA (n := 8) rfl (by kernel_rfl) (by kernel_rfl) rfl (by rfl) (fun k u hk => hI.oldp (hut k u hk)) | exact rLdA (n := 8) rfl (by kernel_rfl) (by kernel_rfl) rfl (by rfl) hut) ?_
  refine WL_alloc (u := .agg #[.int .i64 0, .int .i64 0, .int .i64 0, .int .i64 0, .int .i64 0, .int .i64 0, .int .i64 0, .int .i64 0]) (vs := #[.int .i64 0, .int .i64 0, .int .i64 0, .int .i64 0, .int .i64 0, .int .i64 0, .int .i64 0, .int .i64 0]) hI rfl rfl rfl rfl (by kernel_rfl) rfl ?_
  clear hI; rintro b11 w - - hI
  refine WL_val rfl rfl rfl (by first | exact rAsgnI rfl rfl | exact rAsgn rfl) ?_
  first | refine WL_stw0 (u := .agg _) (vs := #[_, _, _, _, _, _, _, _]) (n := 8) hI rfl rfl rfl rfl rfl rfl (by kernel_rfl) rfl rfl rfl ?_
  clear hI; intro w hI
  refine WL_nil ?_
  obtain ⟨e, hek⟩ : ∃ e, ev k = e := ⟨_, rfl⟩
  obtain ⟨e0, e1, e2, e3, e4, e5, e6⟩ := e
  replace hI : Inv (fun _ => False) w0 w (B b11 42 #[.int .i64 (k : Int), .int .i64 e0, .int .i64 e1, .int .i64 e2, .int .i64 e3, .int .i64 e4, .int .i64 e5, .int .i64 e6] :: Row 0 30 7 A2 k c2 ((List.range k).flatMap fun i => evL (ev i)) :: Ex) := by
    have := hI
    simp only [tkAt, hek] at this
    exact this
  refine W_seq_cut (fun ρ w => Has ρ [(11, .pointer (some ⟨b11, 0, none⟩)), (63, .int .i64 (k : Int)), (62, .int .i64 (n : Int)), (61, .slice (some ⟨bt, ot, none⟩) n c1), (9, .slice A2 k c2), (4, .slice (some ⟨bt, ot, none⟩) n c1)] ∧ Inv (fun _ => False) w0 w (B b11 42 #[.int .i64 (k : Int), .int .i64 e0, .int .i64 e1, .int .i64 e2, .int .i64 e3, .int .i64 e4, .int .i64 e5, .int .i64 e6] :: Row 0 30 7 A2 k c2 ((List.range k).flatMap fun i => evL (ev i)) :: Ex)) ?_ ?_
  · by_cases hk0 : k = 0
    · subst hk0
      refine W_seq ?_
      refine W_draw (by kernel_rfl) ?_
      refine WA_inv (T := [12]) hI.drew ?_
      intro Sx hSx hXS
      replace hI := hI.drew
      refine WT_take 0 rfl rfl (by kernel_rfl) (hXS _ hI) rfl (fun W hW => have hI := hSx W hW; (by first | exact rMoveI rfl rfl | exact rMove rfl)) ?_
      refine WT_take 1 rfl rfl (by kernel_rfl) (hXS _ hI) rfl (fun W hW => have hI := hSx W hW; (by first | exact rGtrT rfl rfl rfl (by omega) | exact rGtrF rfl rfl rfl (by omega) | exact rGtr rfl rfl rfl)) ?_
      refine WT_take 2 rfl rfl (by kernel_rfl) (hXS _ hI) rfl (fun W hW => have hI := hSx W hW; (by first | exact rMoveB rfl rfl | exact rMove rfl)) ?_
      refine WT_skip 3 rfl rfl (by kernel_rfl) (hXS _ hI) rfl ?_
      refine WT_skip 4 rfl rfl (by kernel_rfl) (hXS _ hI) rfl ?_
      refine WT_skip 5 rfl rfl (by kernel_rfl) (hXS _ hI) rfl ?_
      refine WT_skip 6 rfl rfl (by kernel_rfl) (hXS _ hI) rfl ?_
      refine WT_skip 7 rfl rfl (by kernel_rfl) (hXS _ hI) rfl ?_
      refine WT_skip 8 rfl rfl (by kernel_rfl) (hXS _ hI) rfl ?_
      refine WT_skip 9 rfl rfl (by kernel_rfl) (hXS _ hI) rfl ?_
      refine WT_skip 10 rfl rfl (by kernel_rfl) (hXS _ hI) rfl ?_
      refine WT_skip 11 rfl rfl (by kernel_rfl) (hXS _ hI) rfl ?_
      refine WT_A (by kernel_rfl) ?_
      clear hXS hSx
      refine WA_T (fun _ => True) [] ?_
      refine WT_take 12 rfl rfl (by kernel_rfl) trivial rfl (fun W _ => (by first | exact rPickTB rfl rfl rfl | exact rPickFB rfl rfl rfl | exact rPickB rfl rfl rfl rfl)) ?_
      refine WT_end (by kernel_rfl) ?_
      refine W_cond false rfl ?_
      refine W_skip ?_
      exact ⟨⟨rfl, rfl, rfl, rfl, rfl, rfl, trivial⟩, hI⟩
    · obtain ⟨m, rfl⟩ : ∃ m, k = m + 1 := ⟨k - 1, by omega⟩
      have hE0 : ∀ W (a b : Ent), Inv (fun _ => False) w0 W (a :: b :: Ex) → W.cell? ⟨bt, ot + m * 8, none⟩ = some (.int .i64 (m : Int)) := fun W a b hJ => by
        obtain ⟨bt', ot', hbt, hu⟩ := hEx W [a, b] hJ m (by omega)
        injection hbt with hbt
        injection hbt with q1 q2
        subst q1 q2
        exact hu 0 _ rfl
      refine W_seq ?_
      refine W_draw (by kernel_rfl) ?_
      refine WA_inv (T := [12]) hI.drew ?_
      intro Sx hSx hXS
      replace hI := hI.drew
      refine WT_take 0 rfl rfl (by kernel_rfl) (hXS _ hI) rfl (fun W hW => have hI := hSx W hW; (by first | exact rMoveI rfl rfl | exact rMove rfl)) ?_
      refine WT_take 1 rfl rfl (by kernel_rfl) (hXS _ hI) rfl (fun W hW => have hI := hSx W hW; (by first | exact rGtrT rfl rfl rfl (by omega) | exact rGtrF rfl rfl rfl (by omega) | exact rGtr rfl rfl rfl)) ?_
      refine WT_take 2 rfl rfl (by kernel_rfl) (hXS _ hI) rfl (fun W hW => have hI := hSx W hW; (by first | exact rMoveB rfl rfl | exact rMove rfl)) ?_
      first | refine WT_take 3 rfl rfl (by kernel_rfl) (hXS _ hI) rfl (fun W hW => have hI := hSx W hW; (by first | exact rFldN (off := 0) rfl (by kernel_rfl) rfl | exact rFld0 rfl (by kernel_rfl) rfl)) ?_ | refine WT_skip 3 rfl rfl (by kernel_rfl) (hXS _ hI) rfl ?_
      first | refine WT_take 4 rfl rfl (by kernel_rfl) (hXS _ hI) rfl (fun W hW => have hI := hSx W hW; (by first | exact rLd (v := .int .i64 _) rfl (by kernel_rfl) rfl (by first | exact hI.c0 rfl | exact (hE0 _ _ _ hI)) | exact rLd rfl (by kernel_rfl) rfl (by first | exact hI.c0 rfl | exact (hE0 _ _ _ hI)))) ?_ | refine WT_skip 4 rfl rfl (by kernel_rfl) (hXS _ hI) rfl ?_
      first | refine WT_take 5 rfl rfl (by kernel_rfl) (hXS _ hI) rfl (fun W hW => have hI := hSx W hW; (by first | exact rMoveS rfl rfl | exact rMove rfl)) ?_ | refine WT_skip 5 rfl rfl (by kernel_rfl) (hXS _ hI) rfl ?_
      first | refine WT_take 6 rfl rfl (by kernel_rfl) (hXS _ hI) rfl (fun W hW => have hI := hSx W hW; (by first | exact rMoveI rfl rfl | exact rMove rfl)) ?_ | refine WT_skip 6 rfl rfl (by kernel_rfl) (hXS _ hI) rfl ?_
      first | refine WT_take 7 rfl rfl (by kernel_rfl) (hXS _ hI) rfl (fun W hW => have hI := hSx W hW; (rDecN (b := 1) rfl rfl rfl (by omega) (by omega))) ?_ | refine WT_skip 7 rfl rfl (by kernel_rfl) (hXS _ hI) rfl ?_
      first | refine WT_take 8 rfl rfl (by kernel_rfl) (hXS _ hI) rfl (fun W hW => have hI := hSx W hW; (rIdx (sz := 8) (i := m) rfl Try.underlying39 (by kernel_rfl) rfl rfl (by omega))) ?_ | refine WT_skip 8 rfl rfl (by kernel_rfl) (hXS _ hI) rfl ?_
      first | refine WT_take 9 rfl rfl (by kernel_rfl) (hXS _ hI) rfl (fun W hW => have hI := hSx W hW; (by first | exact rFldN (off := 0) rfl (by kernel_rfl) rfl | exact rFld0 rfl (by kernel_rfl) rfl)) ?_ | refine WT_skip 9 rfl rfl (by kernel_rfl) (hXS _ hI) rfl ?_
      first | refine WT_take 10 rfl rfl (by kernel_rfl) (hXS _ hI) rfl (fun W hW => have hI := hSx W hW; (by first | exact rLd (v := .int .i64 _) rfl (by kernel_rfl) rfl (by first | exact hI.c0 rfl | exact (hE0 _ _ _ hI)) | exact rLd rfl (by kernel_rfl) rfl (by first | exact hI.c0 rfl | exact (hE0 _ _ _ hI)))) ?_ | refine WT_skip 10 rfl rfl (by kernel_rfl) (hXS _ hI) rfl ?_
      first | refine WT_take 11 rfl rfl (by kernel_rfl) (hXS _ hI) rfl (fun W hW => have hI := hSx W hW; (by first | exact rEqlT rfl rfl rfl (by omega) | exact rEqlF rfl rfl rfl (by omega) | exact rEql rfl rfl rfl)) ?_ | refine WT_skip 11 rfl rfl (by kernel_rfl) (hXS _ hI) rfl ?_
      refine WT_A (by kernel_rfl) ?_
      clear hXS hSx
      refine WA_T (fun _ => True) [] ?_
      refine WT_take 12 rfl rfl (by kernel_rfl) trivial rfl (fun W _ => (by first | exact rPickTB rfl rfl rfl | exact rPickFB rfl rfl rfl | exact rPickB rfl rfl rfl rfl)) ?_
      refine WT_end (by kernel_rfl) ?_
      refine W_cond false rfl ?_
      refine W_skip ?_
      exact ⟨⟨rfl, rfl, rfl, rfl, rfl, rfl, trivial⟩, hI⟩
  clear hI
  rintro ρ w ⟨hH, hI⟩
  obtain ⟨σ, rfl⟩ := hH.open
  have hB1 : ∀ (j : Nat) (u : Value), (evL (ev k))[j]? = some u → w.cell? ⟨b11, 1 + j, none⟩ = some u := fun j u hj => by
    rw [hek] at hj
    have hB : Blk w b11 42 #[.int .i64 (k : Int), .int .i64 e0, .int .i64 e1, .int .i64 e2, .int .i64 e3, .int .i64 e4, .int .i64 e5, .int .i64 e6] := hI.g0
    rw [hB.cell, show 1 + j = j + 1 by omega]
    simpa [evL] using hj
  refine W_region ?_
  refine WL_val rfl rfl rfl (by first | exact rMoveS rfl rfl | exact rMove rfl) ?_
  refine WL_val rfl rfl rfl (by first | exact rFldN (off := 1) rfl (by kernel_rfl) rfl | exact rFld (off := 1) rfl (by kernel_rfl) rfl) ?_
  refine WL_val rfl rfl rfl (by first | exact rLdB (n := 7) rfl (by kernel_rfl) (by kernel_rfl) rfl rfl hI.g0 | exact rLdB (n := 7) rfl (by kernel_rfl) (by kernel_rfl) rfl rfl hI.g1 | exact rLdA (n := 7) rfl (by kernel_rfl) (by kernel_rfl) rfl (by rfl) (fun k u hk => hI.oldp (hB1 k u hk)) | exact rLdA (n := 7) rfl (by kernel_rfl) (by kernel_rfl) rfl (by rfl) hB1) ?_
  refine WL_lit (vs := [_, _, _, _, _, _, _]) (qs := [(0, .agg #[_, _, _, _, _, _, _])]) [.int .i64 0, .int .i64 0, .int .i64 0, .int .i64 0, .int .i64 0, .int .i64 0, .int .i64 0] [0] hI rfl rfl rfl rfl rfl rfl Try.underlying22 (fun _ => by kernel_rfl) ?_
  clear hI; rintro b85 w - - hI
  first | refine WL_app2 (z := .agg #[.int .i64 0, .int .i64 0, .int .i64 0, .int .i64 0, .int .i64 0, .int .i64 0, .int .i64 0]) (by_ := 56) hI rfl rfl rfl rfl rfl rfl Try.underlying22 (by kernel_rfl) rfl (by omega) (by rfl) hI.lit0 (by first | rfl | simp [i64s, Value.oneCell']) (by omega) (by omega) (by first | exact Nat.zero_le _ | (have := hI.chg.size; omega)) ?_
  clear hI; rintro A86 c86 w hA86 hc86 hI
  replace hI := hI.d0
  refine WL_val rfl rfl rfl (by first | exact rAsgnS rfl rfl | exact rAsgn rfl) ?_
  refine WL_nil ?_
  refine W_region ?_
  refine WL_val rfl rfl rfl (by first | exact rInc rfl rfl rfl (by omega) | exact rAdd rfl rfl rfl (by omega) | exact rAddW rfl rfl rfl) ?_
  refine WL_val rfl rfl rfl (by first | exact rMoveI rfl rfl | exact rMove rfl) ?_
  refine WL_nil ?_
  refine ⟨n - (k + 1), by omega, k + 1, _, _, rfl, by omega, ⟨rfl, rfl, rfl, rfl, rfl, trivial⟩, ?_⟩
  rw [List.range_succ, List.flatMap_append]
  have e : [k].flatMap (fun i => evL (ev i)) = [.int .i64 (ev k).proc, .int .i64 (ev k).ty, .int .i64 (ev k).key, .int .i64 (ev k).kind, .int .i64 (ev k).a, .int .i64 (ev k).b, .int .i64 (ev k).res] := by simp [evL]
  rw [e]
  exact hI.d0
end Go.Proofs.Ytfagfkgmibmanaa
