/- merge: sets: their words; maps.Copy at their maps; clone. -/
import Derived.Test.YtkfciehgjhgmeaaSxO
import Derived.Test.YtkfciehgjhgmeaaProg
namespace Go.Proofs.Ytkfciehgjhgmeaa
open Go.RowKit
set_option linter.unusedVariables false
set_option linter.unusedSimpArgs false
/-! ### Inv: what a call takes and gives back -/
section
variable {S : Nat → Prop} {w0 w w' : World} {l H H' : List Ent}
def DL (l : List Ent) : Nat → Prop := fun k => ∃ e ∈ l, e.D k
theorem Inv.from (h : Inv S w0 w (l ++ H)) : Inv (DL l) w w l :=
  ⟨Chg.refl _ w, fun e he => h.ok e (by simp [he]), fun e he k hk => .inl ⟨e, he, hk⟩, (List.pairwise_append.1 h.apart).1⟩
theorem Inv.turnL (h : Inv S w0 w (l ++ H)) (h' : Inv (DL l) w w' H') : Inv S w0 w' (H' ++ H) := by
  obtain ⟨p1, p2, p3⟩ := List.pairwise_append.1 h.apart
  refine ⟨h.chg.trans' h'.chg fun k hk1 hk2 => ?_, fun x hx => ?_, fun x hx k hk => ?_, List.pairwise_append.2 ⟨h'.apart, p2, fun a ha b hb k h1 h2 => ?_⟩⟩
  · obtain ⟨e, he, hk2⟩ := hk2
    rcases h.own e (by simp [he]) k hk2 with h1 | h1
    · exact h1
    · omega
  · rcases List.mem_append.1 hx with hx | hx
    · exact h'.ok x hx
    · exact (h.ok x (by simp [hx])).chg h'.chg (fun k hk hk2 => by obtain ⟨e, he, hk2⟩ := hk2; exact p3 e he x hx k hk2 hk)
  · rcases List.mem_append.1 hx with hx | hx
    · rcases h'.own x hx k hk with ⟨e, he, h1⟩ | h1
      · exact h.own e (by simp [he]) k h1
      · exact .inr (Nat.le_trans h.chg.size h1)
    · exact h.own x (by simp [hx]) k hk
  · rcases h'.own a ha k h1 with ⟨e, he, h3⟩ | h3
    · exact p3 e he b hb k h3 h2
    · have := (h.ok b (by simp [hb])).2.1 k h2
      omega
end
abbrev Tag := Int × Int
abbrev okT : Tag → Prop := fun _ => True
abbrev kT : Tag → Value := fun a => .agg #[.int .i64 a.1, .int .i64 a.2]
theorem checkT (x y : Int) (em : Bool) (w : World) : (Instr.checkKey em 10000 62 (.agg #[.int .i64 x, .int .i64 y])).run Try.prog w = .ok () w := by kernel_rfl
theorem keyL : KeyOk Try.prog 62 (fun l : List Int => l.length = 2) (fun l => .agg (i64s l).toArray) := keyInts (n := 2) (by kernel_rfl) (fun a ha em w => match a, ha with
  | [x, y], _ => checkT x y em w)
theorem keyT : KeyOk Try.prog 62 okT kT := by
  refine ⟨fun a _ es m w hes _ => ?_, fun a _ em w => checkT a.1 a.2 em w, fun a _ w => keyL.stays [a.1, a.2] rfl w⟩
  have h1 : EsK (fun l : List Int => .agg (i64s l).toArray) es (m.map fun p => ([p.1.1, p.1.2], p.2)) := by
    unfold EsK at hes ⊢
    rw [hes, List.map_map]
    rfl
  rcases keyL.find [a.1, a.2] rfl es _ w h1 (fun p hp => by
    obtain ⟨q, _, rfl⟩ := List.mem_map.1 hp
    rfl) with ⟨h2, h3⟩ | ⟨j, v, h2, h3⟩
  · refine .inl ⟨fun p hp e => h2 _ (List.mem_map.2 ⟨p, hp, rfl⟩) ?_, h3⟩
    rw [e]
  · rw [List.getElem?_map] at h2
    cases hm : m[j]? with
    | none => rw [hm] at h2; cases h2
    | some p =>
      rw [hm] at h2
      obtain ⟨⟨x, y⟩, u⟩ := p
      simp only [Option.map_some, Option.some.injEq, Prod.mk.injEq, List.cons.injEq, and_true] at h2
      obtain ⟨⟨e1, e2⟩, e3⟩ := h2
      subst e1 e2 e3
      exact .inr ⟨j, u, hm, h3⟩
/-! ### Sets -/
abbrev unitV : Value := .agg #[]
def gT (T : Tag → Option Int) : Tag → Option Value := fun k => (T k).map fun n => .int .i64 n
def gG (G : Tag → Bool) : Tag → Option Value := fun k => if G k then some unitV else none
abbrev thV (A B : Option Nat) : Value := .agg #[.map A, .map B]
def ThR (w : World) (A B : Option Nat) (T : Tag → Option Int) (G : Tag → Bool) : Prop := MapRIs okT kT w A (gT T) ∧ MapRIs okT kT w B (gG G)
def ThE (A B : Option Nat) (T : Tag → Option Int) (G : Tag → Bool) : Ent := ⟨fun k => A = some k ∨ B = some k, fun w => ThR w A B T G⟩
theorem ThR.pure {w w' : World} {A B : Option Nat} {T : Tag → Option Int} {G : Tag → Bool} (h : ThR w A B T G) (hp : Pure w w') : ThR w' A B T G := ⟨MapRIs.pure h.1 hp, MapRIs.pure h.2 hp⟩
theorem Inv.thing {S : Nat → Prop} {w0 w : World} {H : List Ent} {a b : Nat} {T : Tag → Option Int} {G : Tag → Bool} (h : Inv S w0 w (MapKE okT kT a (gT T) :: MapKE okT kT b (gG G) :: H)) : Inv S w0 w (ThE (some a) (some b) T G :: H) := by
  have ha := h.ok (MapKE okT kT a (gT T)) (by simp)
  have hb := h.ok (MapKE okT kT b (gG G)) (by simp)
  have hp := List.pairwise_cons.1 h.apart
  have hp2 := List.pairwise_cons.1 hp.2
  refine ⟨h.chg, fun e he => ?_, fun e he k hk => ?_, List.pairwise_cons.2 ⟨fun e he k hk => ?_, hp2.2⟩⟩
  · rcases List.mem_cons.1 he with rfl | he
    · refine Ent.mk_ok ⟨ha.1, hb.1⟩ (fun k hk => ?_) (fun T w1 w2 hc hT h1 => ⟨ha.2.2 T w1 w2 hc (fun k hk => hT k (.inl (by have e : k = a := hk; rw [e]))) h1.1, hb.2.2 T w1 w2 hc (fun k hk => hT k (.inr (by have e : k = b := hk; rw [e]))) h1.2⟩)
      rcases hk with hk | hk
      · injection hk with hk; subst hk; exact ha.2.1 _ rfl
      · injection hk with hk; subst hk; exact hb.2.1 _ rfl
    · exact h.ok e (by simp [he])
  · rcases List.mem_cons.1 he with rfl | he
    · rcases hk with hk | hk
      · injection hk with hk; subst hk; exact h.own (MapKE okT kT a (gT T)) (by simp) _ rfl
      · injection hk with hk; subst hk; exact h.own (MapKE okT kT b (gG G)) (by simp) _ rfl
    · exact h.own e (by simp [he]) k hk
  · rcases hk with hk | hk
    · injection hk with hk; subst hk; exact hp.1 e (by simp [he]) _ rfl
    · injection hk with hk; subst hk; exact hp2.1 e he _ rfl
/-- What a copy makes of a map. -/
def overG (gs gd : Tag → Option Value) : Tag → Option Value := fun k => match gs k with | some v => some v | none => gd k
theorem overG_none (gs : Tag → Option Value) : overG gs (fun _ => none) = gs := by
  funext k
  unfold overG
  cases gs k <;> rfl
/-- A copy on its way. -/
def CopyI (gs gd gm : Tag → Option Value) (left : Tag → Prop) : Prop := (∀ k, left k → gm k = gd k) ∧ (∀ k, ¬ left k → gm k = overG gs gd k)
theorem CopyI.start (gs gd : Tag → Option Value) : CopyI gs gd gd fun k => (gs k).isSome = true := ⟨fun _ _ => rfl, fun k hk => by
  unfold overG
  cases h : gs k with
  | none => rfl
  | some v => exact absurd (show (gs k).isSome = true by rw [h]; rfl) hk⟩
theorem CopyI.next {gs gd gm : Tag → Option Value} {left : Tag → Prop} {a : Tag} {v : Value} (h : CopyI gs gd gm left) (hv : gs a = some v) : CopyI gs gd (fun j => if j = a then some v else gm j) fun k => left k ∧ k ≠ a := by
  refine ⟨fun k hk => ?_, fun k hk => ?_⟩
  · show (if k = a then some v else gm k) = _
    rw [if_neg hk.2]; exact h.1 k hk.1
  · show (if k = a then some v else gm k) = _
    by_cases hka : k = a
    · subst hka
      rw [if_pos rfl]
      unfold overG
      rw [hv]
    · rw [if_neg hka]
      exact h.2 k fun hl => hk ⟨hl, hka⟩
theorem CopyI.done {gs gd gm : Tag → Option Value} {left : Tag → Prop} (h : CopyI gs gd gm left) (hl : ∀ k, ¬ left k) : gm = overG gs gd := funext fun k => h.2 k (hl k)
theorem oldM {S : Nat → Prop} {w0 w : World} {H : List Ent} {A : Option Nat} {g : Tag → Option Value} (hI : Inv S w0 w H) (hM : MapRIs okT kT w0 A g) (hS : ∀ b, A = some b → ¬ S b) : ∀ b, A = some b → w.heap[b]? = w0.heap[b]? := fun b hb => by
  subst hb
  exact hI.chg.block b (MapKIs.lt hM) (hS b rfl)
set_option maxHeartbeats 2000000 in
theorem copyI_any (bd : Nat) (gd : Tag → Option Value) (A : Option Nat) (T : Tag → Option Int) (S : Nat → Prop) (w0 : World) (hM : MapRIs okT kT w0 A (gT T)) (hS : ∀ b, A = some b → ¬ S b) (hI : Inv S w0 w0 [MapKE okT kT bd gd]) :
    Calls Try.prog 27 #[.map (some bd), .map A] w0 fun e w' => e = .returned (.tuple #[]) ∧ Inv S w0 w' [MapKE okT kT bd (overG (gT T) gd)] := by
  refine calls_of_W (N := Try.f27.ntmps) Try.func27 rfl rfl rfl ?_
  refine W_seq ?_
  refine W_region ?_
  refine WL_val rfl rfl rfl (by first | exact rMoveM rfl rfl | exact rMove rfl) ?_
  refine WL_rangeR hM hI rfl rfl rfl rfl Try.underlying33 rfl ?_
  clear hI; intro br cnt w hI
  refine WL_nil ?_
  refine W_block ?_
  refine W_loopN (fun mu ρ w => ∃ (left : Tag → Prop) (cur : Option Tag) (gm : Tag → Option Value), CopyI (gT T) gd gm left ∧ Has ρ [(7, .pointer (some ⟨br, 0, none⟩)), (0, .map (some bd))] ∧ Inv S w0 w [RngR okT kT w0 A br (gT T) left mu cur, MapKE okT kT bd gm]) cnt
    ⟨_, _, _, CopyI.start _ _, ⟨rfl, rfl, trivial⟩, hI⟩ ?_
  clear hI
  rintro mu ρ w ⟨left, cur, gm, hC, hH, hI⟩
  obtain ⟨σ, rfl⟩ := hH.open
  refine W_seq ?_
  refine W_region ?_
  refine WL_nextR 0 rfl hI (oldM hI hM hS) rfl rfl rfl rfl rfl (fun hnone => ?_) ?_
  rotate_left
  · clear hI
    rintro a v w hla hga hmu hI
    simp only [List.set_cons_zero] at hI
    obtain ⟨n, rfl⟩ : ∃ n : Int, v = .int .i64 n := by
      unfold gT at hga
      cases hT : T a with
      | none => rw [hT] at hga; cases hga
      | some n => rw [hT] at hga; exact ⟨n, by injection hga with hga; exact hga.symm⟩
    obtain ⟨p, q⟩ := a
    refine WL_val rfl rfl rfl (rExtr rfl rfl rfl) ?_
    refine WL_nil ?_
    refine W_seq ?_
    refine W_cond true rfl ?_
    refine W_skip ?_
    refine W_block ?_
    refine W_seq ?_
    refine W_region ?_
    refine WL_val rfl rfl rfl (rEntryR hga rfl rfl (oldM hI hM hS) hI.g0) ?_
    refine WL_val rfl rfl rfl (rExtr rfl rfl rfl) ?_
    refine WL_val rfl rfl rfl (rExtr rfl rfl rfl) ?_
    refine WL_alloc (u := .agg #[.int .i64 0, .int .i64 0]) (vs := #[.int .i64 0, .int .i64 0]) hI rfl rfl rfl rfl (by kernel_rfl) rfl ?_
    clear hI; rintro b4 w - - hI
    first | refine WL_stw0 (u := .agg _) (vs := #[_, _]) (n := 2) hI rfl rfl rfl rfl rfl rfl (by kernel_rfl) rfl rfl rfl ?_ | refine WL_stw1 (u := .agg _) (vs := #[_, _]) (n := 2) hI rfl rfl rfl rfl rfl rfl (by kernel_rfl) rfl rfl rfl ?_ | refine WL_stw2 (u := .agg _) (vs := #[_, _]) (n := 2) hI rfl rfl rfl rfl rfl rfl (by kernel_rfl) rfl rfl rfl ?_ | refine WL_stw3 (u := .agg _) (vs := #[_, _]) (n := 2) hI rfl rfl rfl rfl rfl rfl (by kernel_rfl) rfl rfl rfl ?_ | refine WL_stw4 (u := .agg _) (vs := #[_, _]) (n := 2) hI rfl rfl rfl rfl rfl rfl (by kernel_rfl) rfl rfl rfl ?_ | refine WL_stw5 (u := .agg _) (vs := #[_, _]) (n := 2) hI rfl rfl rfl rfl rfl rfl (by kernel_rfl) rfl rfl rfl ?_
    clear hI; intro w hI
    refine WL_val rfl rfl rfl (by first | exact rAsgnI rfl rfl | exact rAsgn rfl) ?_
    refine WL_nil ?_
    refine W_region ?_
    refine WL_val rfl rfl rfl (by first | exact rMoveM rfl rfl | exact rMove rfl) ?_
    refine WL_val rfl rfl rfl (by first | exact rLdB (n := 2) rfl (by kernel_rfl) (by kernel_rfl) rfl rfl hI.g0 | exact rLdB (n := 2) rfl (by kernel_rfl) (by kernel_rfl) rfl rfl hI.g1 | exact rLdB (n := 2) rfl (by kernel_rfl) (by kernel_rfl) rfl rfl hI.g2 | exact rLdB (n := 2) rfl (by kernel_rfl) (by kernel_rfl) rfl rfl hI.g3 | exact rLdB (n := 2) rfl (by kernel_rfl) (by kernel_rfl) rfl rfl hI.g4 | exact rLdB (n := 2) rfl (by kernel_rfl) (by kernel_rfl) rfl rfl hI.g5 | exact rLd2 rfl (by kernel_rfl) (by kernel_rfl) rfl (by first | exact hI.c0 rfl | exact hI.c1 rfl | exact hI.c2 rfl | exact hI.c3 rfl | exact hI.c4 rfl | exact hI.c5 rfl) (by first | exact hI.c0 rfl | exact hI.c1 rfl | exact hI.c2 rfl | exact hI.c3 rfl | exact hI.c4 rfl | exact hI.c5 rfl)) ?_
    refine WL_val rfl rfl rfl (by first | exact rMoveI rfl rfl | exact rMove rfl) ?_
    refine WL_mapSetK (a := ((p, q) : Tag)) (v := .int .i64 n) keyT 2 rfl hI rfl rfl rfl Try.underlying33 rfl rfl rfl trivial ?_
    clear hI; intro w hI
    simp only [List.set_cons_succ, List.set_cons_zero] at hI
    refine WL_nil ?_
    exact ⟨mu - 1, by omega, _, _, _, hC.next hga, ⟨rfl, rfl, trivial⟩, hI.d0⟩
  refine WL_val rfl rfl rfl (rExtr rfl rfl rfl) ?_
  refine WL_nil ?_
  refine W_seq ?_
  refine W_cond false rfl ?_
  refine W_exit ?_
  rw [hC.done hnone] at hI
  exact ret0 (.inl rfl) rfl ⟨rfl, hI.d0⟩
set_option maxHeartbeats 2000000 in
theorem copyG_any (bd : Nat) (gd : Tag → Option Value) (A : Option Nat) (G : Tag → Bool) (S : Nat → Prop) (w0 : World) (hM : MapRIs okT kT w0 A (gG G)) (hS : ∀ b, A = some b → ¬ S b) (hI : Inv S w0 w0 [MapKE okT kT bd gd]) :
    Calls Try.prog 28 #[.map (some bd), .map A] w0 fun e w' => e = .returned (.tuple #[]) ∧ Inv S w0 w' [MapKE okT kT bd (overG (gG G) gd)] := by
  refine calls_of_W (N := Try.f28.ntmps) Try.func28 rfl rfl rfl ?_
  refine W_seq ?_
  refine W_region ?_
  refine WL_val rfl rfl rfl (by first | exact rMoveM rfl rfl | exact rMove rfl) ?_
  refine WL_rangeR hM hI rfl rfl rfl rfl Try.underlying34 rfl ?_
  clear hI; intro br cnt w hI
  refine WL_nil ?_
  refine W_block ?_
  refine W_loopN (fun mu ρ w => ∃ (left : Tag → Prop) (cur : Option Tag) (gm : Tag → Option Value), CopyI (gG G) gd gm left ∧ Has ρ [(7, .pointer (some ⟨br, 0, none⟩)), (0, .map (some bd))] ∧ Inv S w0 w [RngR okT kT w0 A br (gG G) left mu cur, MapKE okT kT bd gm]) cnt
    ⟨_, _, _, CopyI.start _ _, ⟨rfl, rfl, trivial⟩, hI⟩ ?_
  clear hI
  rintro mu ρ w ⟨left, cur, gm, hC, hH, hI⟩
  obtain ⟨σ, rfl⟩ := hH.open
  refine W_seq ?_
  refine W_region ?_
  refine WL_nextR 0 rfl hI (oldM hI hM hS) rfl rfl rfl rfl rfl (fun hnone => ?_) ?_
  rotate_left
  · clear hI
    rintro a v w hla hga hmu hI
    simp only [List.set_cons_zero] at hI
    obtain rfl : v = unitV := by
      unfold gG at hga
      split at hga
      · injection hga with hga; exact hga.symm
      · cases hga
    obtain ⟨p, q⟩ := a
    refine WL_val rfl rfl rfl (rExtr rfl rfl rfl) ?_
    refine WL_nil ?_
    refine W_seq ?_
    refine W_cond true rfl ?_
    refine W_skip ?_
    refine W_block ?_
    refine W_seq ?_
    refine W_region ?_
    refine WL_val rfl rfl rfl (rEntryR hga rfl rfl (oldM hI hM hS) hI.g0) ?_
    refine WL_val rfl rfl rfl (rExtr rfl rfl rfl) ?_
    refine WL_val rfl rfl rfl (rExtr rfl rfl rfl) ?_
    refine WL_alloc (u := .agg #[.int .i64 0, .int .i64 0]) (vs := #[.int .i64 0, .int .i64 0]) hI rfl rfl rfl rfl (by kernel_rfl) rfl ?_
    clear hI; rintro b4 w - - hI
    refine WL_alloc (u := .agg #[]) (vs := #[]) hI rfl rfl rfl rfl (by kernel_rfl) rfl ?_
    clear hI; rintro b5 w - - hI
    first | refine WL_stw0 (u := .agg _) (vs := #[_, _]) (n := 2) hI rfl rfl rfl rfl rfl rfl (by kernel_rfl) rfl rfl rfl ?_ | refine WL_stw1 (u := .agg _) (vs := #[_, _]) (n := 2) hI rfl rfl rfl rfl rfl rfl (by kernel_rfl) rfl rfl rfl ?_ | refine WL_stw2 (u := .agg _) (vs := #[_, _]) (n := 2) hI rfl rfl rfl rfl rfl rfl (by kernel_rfl) rfl rfl rfl ?_ | refine WL_stw3 (u := .agg _) (vs := #[_, _]) (n := 2) hI rfl rfl rfl rfl rfl rfl (by kernel_rfl) rfl rfl rfl ?_ | refine WL_stw4 (u := .agg _) (vs := #[_, _]) (n := 2) hI rfl rfl rfl rfl rfl rfl (by kernel_rfl) rfl rfl rfl ?_ | refine WL_stw5 (u := .agg _) (vs := #[_, _]) (n := 2) hI rfl rfl rfl rfl rfl rfl (by kernel_rfl) rfl rfl rfl ?_
    clear hI; intro w hI
    first | refine WL_stw0 (u := .agg _) (vs := #[]) (n := 0) hI rfl rfl rfl rfl rfl rfl (by kernel_rfl) rfl rfl rfl ?_ | refine WL_stw1 (u := .agg _) (vs := #[]) (n := 0) hI rfl rfl rfl rfl rfl rfl (by kernel_rfl) rfl rfl rfl ?_ | refine WL_stw2 (u := .agg _) (vs := #[]) (n := 0) hI rfl rfl rfl rfl rfl rfl (by kernel_rfl) rfl rfl rfl ?_ | refine WL_stw3 (u := .agg _) (vs := #[]) (n := 0) hI rfl rfl rfl rfl rfl rfl (by kernel_rfl) rfl rfl rfl ?_ | refine WL_stw4 (u := .agg _) (vs := #[]) (n := 0) hI rfl rfl rfl rfl rfl rfl (by kernel_rfl) rfl rfl rfl ?_ | refine WL_stw5 (u := .agg _) (vs := #[]) (n := 0) hI rfl rfl rfl rfl rfl rfl (by kernel_rfl) rfl rfl rfl ?_
    clear hI; intro w hI
    refine WL_nil ?_
    refine W_region ?_
    refine WL_val rfl rfl rfl (by first | exact rMoveM rfl rfl | exact rMove rfl) ?_
    refine WL_val rfl rfl rfl (by first | exact rLdB (n := 2) rfl (by kernel_rfl) (by kernel_rfl) rfl rfl hI.g0 | exact rLdB (n := 2) rfl (by kernel_rfl) (by kernel_rfl) rfl rfl hI.g1 | exact rLdB (n := 2) rfl (by kernel_rfl) (by kernel_rfl) rfl rfl hI.g2 | exact rLdB (n := 2) rfl (by kernel_rfl) (by kernel_rfl) rfl rfl hI.g3 | exact rLdB (n := 2) rfl (by kernel_rfl) (by kernel_rfl) rfl rfl hI.g4 | exact rLdB (n := 2) rfl (by kernel_rfl) (by kernel_rfl) rfl rfl hI.g5 | exact rLd2 rfl (by kernel_rfl) (by kernel_rfl) rfl (by first | exact hI.c0 rfl | exact hI.c1 rfl | exact hI.c2 rfl | exact hI.c3 rfl | exact hI.c4 rfl | exact hI.c5 rfl) (by first | exact hI.c0 rfl | exact hI.c1 rfl | exact hI.c2 rfl | exact hI.c3 rfl | exact hI.c4 rfl | exact hI.c5 rfl)) ?_
    refine WL_val rfl rfl rfl (by first | exact rLdB (n := 0) rfl (by kernel_rfl) (by kernel_rfl) rfl rfl hI.g0 | exact rLdB (n := 0) rfl (by kernel_rfl) (by kernel_rfl) rfl rfl hI.g1 | exact rLdB (n := 0) rfl (by kernel_rfl) (by kernel_rfl) rfl rfl hI.g2 | exact rLdB (n := 0) rfl (by kernel_rfl) (by kernel_rfl) rfl rfl hI.g3 | exact rLdB (n := 0) rfl (by kernel_rfl) (by kernel_rfl) rfl rfl hI.g4 | exact rLdB (n := 0) rfl (by kernel_rfl) (by kernel_rfl) rfl rfl hI.g5 | exact rLd0 rfl (by kernel_rfl) (by kernel_rfl) rfl ) ?_
    refine WL_mapSetK (a := ((p, q) : Tag)) (v := unitV) keyT 3 rfl hI rfl rfl rfl Try.underlying34 rfl rfl rfl trivial ?_
    clear hI; intro w hI
    simp only [List.set_cons_succ, List.set_cons_zero] at hI
    refine WL_nil ?_
    exact ⟨mu - 1, by omega, _, _, _, hC.next hga, ⟨rfl, rfl, trivial⟩, hI.d0.d0⟩
  refine WL_val rfl rfl rfl (rExtr rfl rfl rfl) ?_
  refine WL_nil ?_
  refine W_seq ?_
  refine W_cond false rfl ?_
  refine W_exit ?_
  rw [hC.done hnone] at hI
  exact ret0 (.inl rfl) rfl ⟨rfl, hI.d0⟩
set_option maxHeartbeats 2000000 in
theorem cloneTh_any (A B : Option Nat) (T : Tag → Option Int) (G : Tag → Bool) (w0 : World) (h : ThR w0 A B T G) :
    Calls Try.prog 24 #[thV A B] w0 fun e w' => ∃ a b : Nat, e = .returned (thV (some a) (some b)) ∧ Inv (fun _ => False) w0 w' [MapKE okT kT a (gT T), MapKE okT kT b (gG G)] := by
  have hI := Inv.start (fun _ => False) w0
  refine calls_of_W (N := Try.f24.ntmps) Try.func24 rfl rfl rfl ?_
  refine W_seq ?_
  refine W_region ?_
  refine WL_box (u := .agg _) (vs := #[_, _]) hI rfl rfl rfl rfl rfl rfl ?_
  clear hI; rintro b1 w - - hI
  refine WL_alloc (u := .agg #[.map none, .map none]) (vs := #[.map none, .map none]) hI rfl rfl rfl rfl (by kernel_rfl) rfl ?_
  clear hI; rintro b2 w - - hI
  refine WL_nil ?_
  refine W_seq ?_
  refine W_region ?_
  refine WL_mkMapK okT kT hI rfl rfl rfl rfl ?_
  clear hI; rintro ma w hI
  refine WL_mkMapK okT kT hI rfl rfl rfl rfl ?_
  clear hI; rintro mb w hI
  refine WL_val rfl rfl rfl (rBuild (qs := [(0, .map _), (1, .map _)]) (vs := [_, _]) [.map none, .map none] [0, 1] rfl rfl rfl (fun _ => by kernel_rfl)) ?_
  refine WL_alloc (u := .agg #[.map none, .map none]) (vs := #[.map none, .map none]) hI rfl rfl rfl rfl (by kernel_rfl) rfl ?_
  clear hI; rintro b3 w - - hI
  first | refine WL_stw0 (u := .agg _) (vs := #[_, _]) (n := 2) hI rfl rfl rfl rfl rfl rfl (by kernel_rfl) rfl rfl rfl ?_ | refine WL_stw1 (u := .agg _) (vs := #[_, _]) (n := 2) hI rfl rfl rfl rfl rfl rfl (by kernel_rfl) rfl rfl rfl ?_ | refine WL_stw2 (u := .agg _) (vs := #[_, _]) (n := 2) hI rfl rfl rfl rfl rfl rfl (by kernel_rfl) rfl rfl rfl ?_ | refine WL_stw3 (u := .agg _) (vs := #[_, _]) (n := 2) hI rfl rfl rfl rfl rfl rfl (by kernel_rfl) rfl rfl rfl ?_ | refine WL_stw4 (u := .agg _) (vs := #[_, _]) (n := 2) hI rfl rfl rfl rfl rfl rfl (by kernel_rfl) rfl rfl rfl ?_ | refine WL_stw5 (u := .agg _) (vs := #[_, _]) (n := 2) hI rfl rfl rfl rfl rfl rfl (by kernel_rfl) rfl rfl rfl ?_
  clear hI; intro w hI
  refine WL_nil ?_
  replace hI := hI.up2
  have hA : ∀ b, A = some b → ¬ DL [MapKE okT kT ma (fun _ => none)] b := fun b hb hd => by
    subst hb
    obtain ⟨e, he, hd⟩ := hd
    rw [List.mem_singleton.1 he] at hd
    have hlt := MapKIs.lt h.1
    have := (hI.own _ (List.mem_of_getElem? (i := 0) rfl) b hd).resolve_left (fun h => h)
    omega
  have hB : ∀ b, B = some b → ¬ DL [MapKE okT kT mb (fun _ => none)] b := fun b hb hd => by
    subst hb
    obtain ⟨e, he, hd⟩ := hd
    rw [List.mem_singleton.1 he] at hd
    have hlt := MapKIs.lt h.2
    have := (hI.own _ (List.mem_of_getElem? (i := 2) rfl) b hd).resolve_left (fun h => h)
    omega
  refine W_seq ?_
  refine W_region ?_
  refine WL_val rfl rfl rfl (by first | exact rFldN (off := 0) rfl (by kernel_rfl) rfl | exact rFld0 rfl (by kernel_rfl) rfl) ?_
  refine WL_val rfl rfl rfl (by first | exact rLd (v := .map _) rfl (by kernel_rfl) rfl (by first | exact hI.c0 rfl | exact hI.c1 rfl | exact hI.c2 rfl | exact hI.c3 rfl | exact hI.c4 rfl) | exact rLd rfl (by kernel_rfl) rfl (by first | exact hI.c0 rfl | exact hI.c1 rfl | exact hI.c2 rfl | exact hI.c3 rfl | exact hI.c4 rfl)) ?_
  refine WL_val rfl rfl rfl (by first | exact rFldN (off := 0) rfl (by kernel_rfl) rfl | exact rFld0 rfl (by kernel_rfl) rfl) ?_
  refine WL_val rfl rfl rfl (by first | exact rLd (v := .map _) rfl (by kernel_rfl) rfl (by first | exact hI.c0 rfl | exact hI.c1 rfl | exact hI.c2 rfl | exact hI.c3 rfl | exact hI.c4 rfl) | exact rLd rfl (by kernel_rfl) rfl (by first | exact hI.c0 rfl | exact hI.c1 rfl | exact hI.c2 rfl | exact hI.c3 rfl | exact hI.c4 rfl)) ?_
  refine WL_call rfl rfl rfl (rCall (vs := [.map _, .map _]) rfl Try.func27 rfl rfl rfl) ?_
  refine (copyI_any ma (fun _ => none) A T _ _ (MapRIs.pure h.1 hI.pu) hA (Inv.from (l := [MapKE okT kT ma (fun _ => none)]) hI)).mono ?_
  rintro e w1 ⟨rfl, hJ⟩
  refine ⟨_, rfl, ?_⟩
  replace hI := Inv.turnL (l := [MapKE okT kT ma (fun _ => none)]) hI hJ
  refine WL_nil ?_
  rw [overG_none] at hI
  replace hI := Inv.up2 hI
  refine W_seq ?_
  refine W_region ?_
  refine WL_val rfl rfl rfl (by first | exact rFldN (off := 1) rfl (by kernel_rfl) rfl | exact rFld (off := 1) rfl (by kernel_rfl) rfl) ?_
  refine WL_val rfl rfl rfl (by first | exact rLd (v := .map _) rfl (by kernel_rfl) rfl (by first | exact hI.c0 rfl | exact hI.c1 rfl | exact hI.c2 rfl | exact hI.c3 rfl | exact hI.c4 rfl) | exact rLd rfl (by kernel_rfl) rfl (by first | exact hI.c0 rfl | exact hI.c1 rfl | exact hI.c2 rfl | exact hI.c3 rfl | exact hI.c4 rfl)) ?_
  refine WL_val rfl rfl rfl (by first | exact rFldN (off := 1) rfl (by kernel_rfl) rfl | exact rFld (off := 1) rfl (by kernel_rfl) rfl) ?_
  refine WL_val rfl rfl rfl (by first | exact rLd (v := .map _) rfl (by kernel_rfl) rfl (by first | exact hI.c0 rfl | exact hI.c1 rfl | exact hI.c2 rfl | exact hI.c3 rfl | exact hI.c4 rfl) | exact rLd rfl (by kernel_rfl) rfl (by first | exact hI.c0 rfl | exact hI.c1 rfl | exact hI.c2 rfl | exact hI.c3 rfl | exact hI.c4 rfl)) ?_
  refine WL_call rfl rfl rfl (rCall (vs := [.map _, .map _]) rfl Try.func28 rfl rfl rfl) ?_
  refine (copyG_any mb (fun _ => none) B G _ _ (MapRIs.pure h.2 hI.pu) hB (Inv.from (l := [MapKE okT kT mb (fun _ => none)]) hI)).mono ?_
  rintro e w1 ⟨rfl, hJ⟩
  refine ⟨_, rfl, ?_⟩
  replace hI := Inv.turnL (l := [MapKE okT kT mb (fun _ => none)]) hI hJ
  refine WL_nil ?_
  rw [overG_none] at hI
  refine W_seq ?_
  refine W_region ?_
  refine WL_val rfl rfl rfl (by first | exact rLdB (n := 2) rfl (by kernel_rfl) (by kernel_rfl) rfl rfl hI.g0 | exact rLdB (n := 2) rfl (by kernel_rfl) (by kernel_rfl) rfl rfl hI.g1 | exact rLdB (n := 2) rfl (by kernel_rfl) (by kernel_rfl) rfl rfl hI.g2 | exact rLdB (n := 2) rfl (by kernel_rfl) (by kernel_rfl) rfl rfl hI.g3 | exact rLdB (n := 2) rfl (by kernel_rfl) (by kernel_rfl) rfl rfl hI.g4 | exact rLd2 rfl (by kernel_rfl) (by kernel_rfl) rfl (by first | exact hI.c0 rfl | exact hI.c1 rfl | exact hI.c2 rfl | exact hI.c3 rfl | exact hI.c4 rfl) (by first | exact hI.c0 rfl | exact hI.c1 rfl | exact hI.c2 rfl | exact hI.c3 rfl | exact hI.c4 rfl)) ?_
  first | refine WL_stw0 (u := .agg _) (vs := #[_, _]) (n := 2) hI rfl rfl rfl rfl rfl rfl (by kernel_rfl) rfl rfl rfl ?_ | refine WL_stw1 (u := .agg _) (vs := #[_, _]) (n := 2) hI rfl rfl rfl rfl rfl rfl (by kernel_rfl) rfl rfl rfl ?_ | refine WL_stw2 (u := .agg _) (vs := #[_, _]) (n := 2) hI rfl rfl rfl rfl rfl rfl (by kernel_rfl) rfl rfl rfl ?_ | refine WL_stw3 (u := .agg _) (vs := #[_, _]) (n := 2) hI rfl rfl rfl rfl rfl rfl (by kernel_rfl) rfl rfl rfl ?_ | refine WL_stw4 (u := .agg _) (vs := #[_, _]) (n := 2) hI rfl rfl rfl rfl rfl rfl (by kernel_rfl) rfl rfl rfl ?_
  clear hI; intro w hI
  refine WL_nil ?_
  refine W_ret ?_
  exact retC (n := 2) (t := 36) (.inr rfl) rfl rfl (by kernel_rfl) (by kernel_rfl) rfl hI.g3 ⟨ma, mb, rfl, hI.d2.d2.d2.sw0⟩
end Go.Proofs.Ytkfciehgjhgmeaa
