/- isolate: Finds. -/
import Derived.Test.YtlnjmkldpicpdaaDoorAll2
import Derived.Test.YtlnjmkldpicpdaaDoorSxA
namespace Go.Proofs.YtlnjmkldpicpdaaDoor
open Go.RowKit
set_option linter.unusedVariables false
set_option linter.unusedSimpArgs false

/-! ### What is found -/
def conB (t : List ITx) (e : Nat × IOp) : Bool := comAt t e.1 && !e.2.write && !decide (e.2.src = -1) && !decide (e.2.src = e.1)
def abB (t : List ITx) (es : List (Nat × IOp)) : Bool := es.any fun e => conB t e && !comAt t e.2.src
def beB (t : List ITx) (es : List (Nat × IOp)) : Bool := es.any fun e => conB t e && !decide (e.2.num = versF (opsAt t e.2.src) e.2.key - 1)
def knownF (t : List ITx) (g : List (List Int)) : Nat → Nat → Bool := orAll [overF g, seenF t]
def everyF (t : List ITx) (g : List (List Int)) : Nat → Nat → Bool := orAll [knownF t g, anewF t g]
def findsF (n : Nat) (t : List ITx) (g : List (List Int)) : List Bool :=
  [(orderF n (overF g)).isNone, abB t (evsTo t n 0), beB t (evsTo t n 0), (orderF n (knownF t g)).isNone, backTo n (anewF t g) (closF n (knownF t g)) n, backTo n (anewF t g) (closF n (everyF t g)) n]
theorem ab_step {t : List ITx} {k j : Nat} {o : IOp} (h : (opsAt t k)[j]? = some o) : abB t (evsTo t k (j + 1)) = (abB t (evsTo t k j) || (conB t (k, o) && !comAt t o.src)) := by
  unfold abB
  rw [evs_step h, List.any_append]
  simp
theorem be_step {t : List ITx} {k j : Nat} {o : IOp} (h : (opsAt t k)[j]? = some o) : beB t (evsTo t k (j + 1)) = (beB t (evsTo t k j) || (conB t (k, o) && !decide (o.num = versF (opsAt t o.src) o.key - 1))) := by
  unfold beB
  rw [evs_step h, List.any_append]
  simp

def boolC (l : List Bool) : Array Value := (l.map Value.bool).toArray
def FindsPost (w : World) (n : Nat) (t : List ITx) (g : List (List Int)) (e : Ending) (w' : World) : Prop :=
  Pure w w' ∧ ((StoryOk t g ∧ ∃ ob : Nat, w.heap.size ≤ ob ∧ e = .returned (.tuple #[.slice (some ⟨ob, 0, none⟩) 6 6, .nilIface]) ∧ Blk w' ob 4 (boolC (findsF n t g))) ∨
    (¬ StoryOk t g ∧ ∃ x, IsErr x ∧ e = .returned (.tuple #[.slice none 0 0, x])))

theorem SqG.below {w : World} {D : Nat → Prop} {v : Value} {n : Nat} {f : Nat → Nat → Bool} (h : SqG w D v n f) : SqG w (fun k => k < w.heap.size) v n f := by
  obtain ⟨A, c, hv, h1, h2, h3⟩ := h
  refine ⟨A, c, hv, h1, h2, fun hn => ?_⟩
  obtain ⟨b, o, e, hb, hr⟩ := h3 hn
  refine ⟨b, o, e, ?_, fun i hi => ?_⟩
  · obtain ⟨rb, ro, c', q1, _⟩ := hr 0 hn
    exact World.block_lt_of_cell? w _ q1
  · obtain ⟨rb, ro, c', q1, q2, q3, q4, q5⟩ := hr i hi
    exact ⟨rb, ro, c', q1, q2, q3, World.block_lt_of_cell? w _ (q5 0 hn), q5⟩


theorem SqG.both {w : World} {D : Nat → Prop} {v : Value} {n : Nat} {f : Nat → Nat → Bool} (h : SqG w D v n f) : SqG w (fun k => D k ∧ k < w.heap.size) v n f := by
  obtain ⟨A, c, hv, h1, h2, h3⟩ := h
  refine ⟨A, c, hv, h1, h2, fun hn => ?_⟩
  obtain ⟨b, o, e, hb, hr⟩ := h3 hn
  refine ⟨b, o, e, ⟨hb, ?_⟩, fun i hi => ?_⟩
  · obtain ⟨rb, ro, c', q1, _⟩ := hr 0 hn
    exact World.block_lt_of_cell? w _ q1
  · obtain ⟨rb, ro, c', q1, q2, q3, q4, q5⟩ := hr i hi
    exact ⟨rb, ro, c', q1, q2, q3, ⟨q4, World.block_lt_of_cell? w _ (q5 0 hn)⟩, q5⟩
theorem boolC_set (l : List Bool) (i : Nat) (b : Bool) : (boolC l).setIfInBounds i (.bool b) = boolC (l.set i b) := by
  unfold boolC
  rw [List.map_set]
  apply Array.ext'
  simp
/-- The three graphs. -/
def G3 (lo hi : Nat) (v1 v2 v3 : Value) (n : Nat) (f1 f2 f3 : Nat → Nat → Bool) : Ent :=
  ⟨fun k => lo ≤ k ∧ k < hi, fun w => SqG w (fun k => lo ≤ k ∧ k < hi) v1 n f1 ∧ SqG w (fun k => lo ≤ k ∧ k < hi) v2 n f2 ∧ SqG w (fun k => lo ≤ k ∧ k < hi) v3 n f3⟩
theorem G3.ok {w w' : World} {v1 v2 v3 : Value} {n : Nat} {f1 f2 f3 : Nat → Nat → Bool} (h1 : SqG w' (fun k => w.heap.size ≤ k) v1 n f1) (h2 : SqG w' (fun k => w.heap.size ≤ k) v2 n f2) (h3 : SqG w' (fun k => w.heap.size ≤ k) v3 n f3) :
    (G3 w.heap.size w'.heap.size v1 v2 v3 n f1 f2 f3).ok w' :=
  Ent.mk_ok ⟨h1.both, h2.both, h3.both⟩ (fun k hk => hk.2) (fun S w1 w2 hc hS h => ⟨h.1.chg hc hS, h.2.1.chg hc hS, h.2.2.chg hc hS⟩)

/-- One graph. -/
def G1 (lo hi : Nat) (v : Value) (n : Nat) (f : Nat → Nat → Bool) : Ent := ⟨fun k => lo ≤ k ∧ k < hi, fun w => SqG w (fun k => lo ≤ k ∧ k < hi) v n f⟩
theorem G1.ok {w w' : World} {v : Value} {n : Nat} {f : Nat → Nat → Bool} (h : SqG w' (fun k => w.heap.size ≤ k) v n f) : (G1 w.heap.size w'.heap.size v n f).ok w' :=
  Ent.mk_ok h.both (fun k hk => hk.2) (fun S w1 w2 hc hS h => SqG.chg h hc hS)
theorem G1.pu {w w' : World} {n : Nat} {f : Nat → Nat → Bool} (h : RelM w n f w') : Pure w w' := by
  obtain ⟨_, _, _, h⟩ := h
  exact h
theorem SqG.two {w : World} {D : Nat → Prop} {v : Value} {n : Nat} {f : Nat → Nat → Bool} (h : SqG w D v n f) : ∃ A c, v = .slice A n c := by
  obtain ⟨A, c, hv, _⟩ := h
  exact ⟨A, c, hv⟩
theorem graphs2 {w : World} {g T n : Nat} {v1 v2 : Value} {D1 D2 : Nat → Prop} {f1 f2 : Nat → Nat → Bool} (hb : Blk w g T #[v1, v2]) (h1 : SqG w D1 v1 n f1) (h2 : SqG w D2 v2 n f2) :
    Graphs w (fun k => k < w.heap.size) (.slice (some ⟨g, 0, none⟩) (2 : Nat) (2 : Nat)) n [f1, f2] := by
  refine ⟨[v1, v2], ⟨_, _, rfl, Nat.le_refl _, by decide, rfl, fun _ => ⟨g, 0, rfl, hb.lt, fun j u hj => ?_⟩⟩, fun i f hf => ?_⟩
  · rw [Nat.zero_add, hb.cell]; simpa using hj
  · match i, hf with
    | 0, hf => cases hf; exact ⟨v1, rfl, h1.below⟩
    | 1, hf => cases hf; exact ⟨v2, rfl, h2.below⟩
theorem graphs3 {w : World} {g T n : Nat} {v1 v2 v3 : Value} {D1 D2 D3 : Nat → Prop} {f1 f2 f3 : Nat → Nat → Bool} (hb : Blk w g T #[v1, v2, v3]) (h1 : SqG w D1 v1 n f1) (h2 : SqG w D2 v2 n f2) (h3 : SqG w D3 v3 n f3) :
    Graphs w (fun k => k < w.heap.size) (.slice (some ⟨g, 0, none⟩) (3 : Nat) (3 : Nat)) n [f1, f2, f3] := by
  refine ⟨[v1, v2, v3], ⟨_, _, rfl, Nat.le_refl _, by decide, rfl, fun _ => ⟨g, 0, rfl, hb.lt, fun j u hj => ?_⟩⟩, fun i f hf => ?_⟩
  · rw [Nat.zero_add, hb.cell]; simpa using hj
  · match i, hf with
    | 0, hf => cases hf; exact ⟨v1, rfl, h1.below⟩
    | 1, hf => cases hf; exact ⟨v2, rfl, h2.below⟩
    | 2, hf => cases hf; exact ⟨v3, rfl, h3.below⟩

theorem icommits_any (sb : Nat) (A : Option Addr) (n c i : Nat) (l : List ITx) (D : Nat → Prop) (w : World) (hs : w.cell? ⟨sb, 0, none⟩ = some (.slice A n c)) (h : Txs w D (.slice A n c) l) (hl : l.length = n) (hi : i < n) :
    Calls Tryd.prog 29 #[.int .i64 i, .pointer (some ⟨sb, 0, none⟩)] w fun e w' => e = .returned (.bool (comAt l i)) ∧ w = w' := by
  obtain ⟨t, ht⟩ : ∃ t, l[i]? = some t := ⟨_, List.getElem?_eq_getElem (by omega)⟩
  obtain ⟨b, f, A', c', rfl, _, q1, q2, q3, q4, q5⟩ := h.get ht
  have hI := Inv.start (fun _ => False) w
  refine calls_of_W (N := Tryd.f29.ntmps) Tryd.func29 rfl rfl rfl ?_
  refine W_seq ?_
  refine W_region ?_
  refine WL_val rfl rfl rfl (by first | exact rAsgnB rfl rfl | exact rAsgn rfl) ?_
  refine WL_nil ?_
  refine W_seq ?_
  refine W_region ?_
  refine WL_val rfl rfl rfl (by first | exact rFldN (off := 0) rfl (by kernel_rfl) rfl | exact rFld0 rfl (by kernel_rfl) rfl) ?_
  refine WL_val rfl rfl rfl (by first | exact rLd (v := .slice _ _ _) rfl (by kernel_rfl) rfl (by first | exact hI.oldp hs | exact hs | exact hI.oldp q2 | exact q2) | exact rLd rfl (by kernel_rfl) rfl (by first | exact hI.oldp hs | exact hs | exact hI.oldp q2 | exact q2)) ?_
  refine WL_val rfl rfl rfl (by first | exact rMoveI rfl rfl | exact rMove rfl) ?_
  refine WL_val rfl rfl rfl (rIdx (sz := 2) rfl Tryd.underlying26 (by kernel_rfl) rfl rfl (by omega)) ?_
  refine WL_val rfl rfl rfl (by first | exact rFldN (off := 1) rfl (by kernel_rfl) rfl | exact rFld (off := 1) rfl (by kernel_rfl) rfl) ?_
  refine WL_val rfl rfl rfl (by first | exact rLd (v := .bool _) rfl (by kernel_rfl) rfl (by first | exact hI.oldp hs | exact hs | exact hI.oldp q2 | exact q2) | exact rLd rfl (by kernel_rfl) rfl (by first | exact hI.oldp hs | exact hs | exact hI.oldp q2 | exact q2)) ?_
  refine WL_val rfl rfl rfl (by first | exact rAsgnB rfl rfl | exact rAsgn rfl) ?_
  refine WL_nil ?_
  refine W_ret ?_
  refine ret1 3 (.inr rfl) rfl ⟨?_, rfl⟩
  exact ret_bool (by simp [comAt, ht])

def storyC (A : Option Addr) (n c : Nat) (A2 : Option Addr) (n2 c2 : Nat) : Array Value := #[.slice A n c, .slice A2 n2 c2]
def edgesC (o1 o2 o3 n : Nat) : Array Value := #[.slice (some ⟨o1, 0, none⟩) n n, .slice (some ⟨o2, 0, none⟩) n n, .slice (some ⟨o3, 0, none⟩) n n]

set_option maxHeartbeats 1000000 in
theorem ifinds_any (A : Option Addr) (n c : Nat) (A2 : Option Addr) (n2 c2 : Nat) (t : List ITx) (g : List (List Int)) (D : Nat → Prop) (w0 : World) (h : Txs w0 D (.slice A n c) t) (hl : t.length = n) (h2 : IGrid w0 D (.slice A2 n2 c2) g) (hn2 : g.length = n2) (hD : ∀ k, D k → k < w0.heap.size) :
    Calls Tryd.prog 14 #[.agg #[.slice A n c, .slice A2 n2 c2]] w0 (FindsPost w0 n t g) := by
  have hI := Inv.start (fun _ => False) w0
  obtain ⟨i1, hi1, hy0, hy1, hy2⟩ := info_parts ginfoBool
  refine calls_of_W (N := Tryd.f14.ntmps) Tryd.func14 rfl rfl rfl ?_
  refine W_seq ?_
  refine W_region ?_
  refine WL_box (u := .agg _) (vs := #[_, _]) hI rfl rfl rfl rfl rfl rfl ?_
  clear hI; rintro b1 w - - hI
  refine WL_val rfl rfl rfl (by first | exact rAsgnS rfl rfl | exact rAsgn rfl) ?_
  refine WL_val rfl rfl rfl (by first | exact rAsgnN rfl rfl | exact rAsgnE rfl rfl | exact rAsgn rfl) ?_
  refine WL_nil ?_
  refine W_seq ?_
  refine W_region ?_
  refine WL_val rfl rfl rfl (by first | exact rLdB (n := 2) rfl (by kernel_rfl) (by kernel_rfl) rfl rfl hI.g0 | exact rLd2 rfl (by kernel_rfl) (by kernel_rfl) rfl (by first | exact hI.c0 rfl) (by first | exact hI.c0 rfl)) ?_
  refine WL_call rfl rfl rfl (rCall (vs := [.agg _]) rfl Tryd.func12 rfl rfl rfl) ?_
  refine (iall_any A n c A2 n2 c2 t g D _ (h.pure hI.pu) hl (h2.pure hI.pu) hn2 (fun k hk => Nat.lt_of_lt_of_le (hD k hk) hI.pu.size)).mono ?_
  rintro e w1 ⟨hp1, ⟨hok, o1, o2, o3, rfl, s1, s2, s3⟩ | ⟨hno, x, ⟨u, rfl⟩, rfl⟩⟩
  · refine ⟨_, rfl, ?_⟩
    replace hI := hI.fresh hp1 (G3.ok s1 s2 s3) (fun k hk => hk.1)
    generalize w1.heap.size = hiB at hI
    generalize w.heap.size = loB at hI
    clear s1 s2 s3 hp1
    have hn8 : n ≤ 8 := by have := hok.1; omega
    refine WL_val rfl rfl rfl (by first | exact rMoveT rfl rfl | exact rMove rfl) ?_
    refine WL_val rfl rfl rfl (rExtr rfl rfl rfl) ?_
    refine WL_val rfl rfl rfl (rExtr rfl rfl rfl) ?_
    refine WL_alloc (u := .agg #[.slice none 0 0, .slice none 0 0, .slice none 0 0]) (vs := #[.slice none 0 0, .slice none 0 0, .slice none 0 0]) hI rfl rfl rfl rfl (by kernel_rfl) rfl ?_
    clear hI; rintro b4 w - - hI
    first | refine WL_stw0 (u := .agg _) (vs := #[_, _, _]) (n := 3) hI rfl rfl rfl rfl rfl rfl (by kernel_rfl) rfl rfl rfl ?_ | refine WL_stw1 (u := .agg _) (vs := #[_, _, _]) (n := 3) hI rfl rfl rfl rfl rfl rfl (by kernel_rfl) rfl rfl rfl ?_ | refine WL_stw2 (u := .agg _) (vs := #[_, _, _]) (n := 3) hI rfl rfl rfl rfl rfl rfl (by kernel_rfl) rfl rfl rfl ?_
    clear hI; intro w hI
    refine WL_val rfl rfl rfl (by first | exact rAsgnN rfl rfl | exact rAsgnE rfl rfl | exact rAsgn rfl) ?_
    refine WL_nil ?_
    refine W_seq ?_
    refine W_seq ?_
    refine W_region ?_
    refine WL_val rfl rfl rfl (by first | exact rMoveN rfl rfl | exact rMoveE rfl rfl | exact rMove rfl) ?_
    refine WL_val rfl rfl rfl (by first | exact rIfaceNe rfl Tryd.underlying37 rfl rfl | exact rNilNe rfl Tryd.underlying37 rfl) ?_
    refine WL_nil ?_
    refine W_cond false rfl ?_
    refine W_skip ?_
    refine W_seq ?_
    refine W_region ?_
    refine WL_val rfl rfl rfl (rFunc (l := []) (m := [_]) rfl rfl rfl) ?_
    refine WL_val rfl rfl rfl (by first | exact rAsgnF rfl rfl | exact rAsgn rfl) ?_
    refine WL_nil ?_
    refine W_seq ?_
    refine W_region ?_
    refine WL_mk (n := 6) (by_ := 1) (z := .bool false) hI rfl rfl rfl rfl rfl rfl Tryd.underlying47 (by kernel_rfl) rfl (by omega) (by omega) ?_
    clear hI; rintro b22 w - - hI
    refine WL_val rfl rfl rfl (by first | exact rAsgnS rfl rfl | exact rAsgn rfl) ?_
    refine WL_nil ?_
    refine W_seq ?_
    refine W_seq ?_
    refine W_region ?_
    refine WL_val rfl rfl rfl (by first | exact rFldN (off := 0) rfl (by kernel_rfl) rfl | exact rFld0 rfl (by kernel_rfl) rfl) ?_
    refine WL_val rfl rfl rfl (by first | exact rLd (v := .slice _ _ _) rfl (by kernel_rfl) rfl (by first | exact hI.c0 rfl | exact hI.c1 rfl | exact hI.c2 rfl | exact hI.c3 rfl | exact hI.c4 rfl | exact hI.c5 rfl) | exact rLd rfl (by kernel_rfl) rfl (by first | exact hI.c0 rfl | exact hI.c1 rfl | exact hI.c2 rfl | exact hI.c3 rfl | exact hI.c4 rfl | exact hI.c5 rfl)) ?_
    refine WL_val rfl rfl rfl (rLen rfl Tryd.underlying26 rfl) ?_
    refine WL_val rfl rfl rfl (by first | exact rMoveI rfl rfl | exact rMove rfl) ?_
    refine WL_nil ?_
    refine W_block ?_
    refine W_loop (fun ρ w => ∃ k : Nat, k ≤ n ∧ Has ρ [(26, .int .i64 k), (25, .int .i64 n), (24, .slice A n c), (1, .pointer (some ⟨b1, 0, none⟩)), (4, .pointer (some ⟨b4, 0, none⟩)), (6, .func (.func 29) #[] #[.pointer (some ⟨b1, 0, none⟩)]), (7, .slice (some ⟨b22, 0, none⟩) (6 : Nat) (6 : Nat))] ∧
      Inv (fun _ => False) w0 w [B b22 4 (boolC [false, abB t (evsTo t k 0), beB t (evsTo t k 0), false, false, false]), B b4 43 (edgesC o1 o2 o3 n), G3 loB hiB (.slice (some ⟨o1, 0, none⟩) n n) (.slice (some ⟨o2, 0, none⟩) n n) (.slice (some ⟨o3, 0, none⟩) n n) n (overF g) (seenF t) (anewF t g), B b1 29 #[.slice A n c, .slice A2 n2 c2]]) (fun ρ _ => n - cnt (ρ 26))
      ⟨0, by omega, ⟨rfl, rfl, rfl, rfl, rfl, rfl, rfl, trivial⟩, hI⟩ ?_
    clear hI
    intro ρ w hI
    obtain ⟨k, hk, hH, hI⟩ := hI
    obtain ⟨σ, rfl⟩ := hH.open
    clear hH
    by_cases hkn : k < n
    · obtain ⟨x, hx⟩ : ∃ x, t[k]? = some x := ⟨_, List.getElem?_eq_getElem (by omega)⟩
      obtain ⟨b, f, A3, c3, rfl, p0, p1, p2, p3, p4, p5⟩ := h.get hx
      obtain ⟨ops, com⟩ := x
      dsimp only at p1 p2 p3 p4 p5
      have hOA : opsAt t (k : Int) = ops := by simp [opsAt, hx]
      have hCA : comAt t (k : Int) = com := by simp [comAt, hx]
      have hm60 : ops.length ≤ 60 := (hok.2.2.1 _ (List.mem_of_getElem? hx)).1
      refine W_seq ?_
      refine W_region ?_
      refine WL_val rfl rfl rfl (by first | exact rLssT rfl rfl rfl (by omega) | exact rLssF rfl rfl rfl (by omega) | exact rLss rfl rfl rfl) ?_
      refine WL_nil ?_
      refine W_seq ?_
      refine W_cond true rfl ?_
      refine W_skip ?_
      refine W_seq_cut (fun ρ w => Has ρ [(26, .int .i64 k), (25, .int .i64 n), (24, .slice (some ⟨b, f, none⟩) n c), (1, .pointer (some ⟨b1, 0, none⟩)), (4, .pointer (some ⟨b4, 0, none⟩)), (6, .func (.func 29) #[] #[.pointer (some ⟨b1, 0, none⟩)]), (7, .slice (some ⟨b22, 0, none⟩) (6 : Nat) (6 : Nat))] ∧
        Inv (fun _ => False) w0 w [B b22 4 (boolC [false, abB t (evsTo t (k + 1) 0), beB t (evsTo t (k + 1) 0), false, false, false]), B b4 43 (edgesC o1 o2 o3 n), G3 loB hiB (.slice (some ⟨o1, 0, none⟩) n n) (.slice (some ⟨o2, 0, none⟩) n n) (.slice (some ⟨o3, 0, none⟩) n n) n (overF g) (seenF t) (anewF t g), B b1 29 #[.slice (some ⟨b, f, none⟩) n c, .slice A2 n2 c2]]) ?_ ?_
      · refine W_block ?_
        refine W_seq ?_
        refine W_region ?_
        refine WL_val rfl rfl rfl (by first | exact rMoveI rfl rfl | exact rMove rfl) ?_
        refine WL_val rfl rfl rfl (rIdx (sz := 2) rfl Tryd.underlying26 (by kernel_rfl) rfl rfl (by omega)) ?_
        refine WL_val rfl rfl rfl (by first | exact rLdB (n := 2) rfl (by kernel_rfl) (by kernel_rfl) rfl rfl hI.g0 | exact rLd2 rfl (by kernel_rfl) (by kernel_rfl) rfl (by first | exact hI.c0 rfl | exact hI.oldp p1 | exact p1 | exact hI.oldp p2 | exact p2) (by first | exact hI.c0 rfl | exact hI.oldp p1 | exact p1 | exact hI.oldp p2 | exact p2)) ?_
        refine WL_alloc (u := .agg #[.slice none 0 0, .bool false]) (vs := #[.slice none 0 0, .bool false]) hI rfl rfl rfl rfl (by kernel_rfl) rfl ?_
        clear hI; rintro b9 w - - hI
        refine WL_val rfl rfl rfl (by first | exact rAsgnI rfl rfl | exact rAsgn rfl) ?_
        first | refine WL_stw0 (u := .agg _) (vs := #[_, _]) (n := 2) hI rfl rfl rfl rfl rfl rfl (by kernel_rfl) rfl rfl rfl ?_
        clear hI; intro w hI
        refine WL_nil ?_
        refine W_seq ?_
        refine W_region ?_
        refine WL_val rfl rfl rfl (by first | exact rFldN (off := 0) rfl (by kernel_rfl) rfl | exact rFld0 rfl (by kernel_rfl) rfl) ?_
        refine WL_val rfl rfl rfl (by first | exact rLd (v := .slice _ _ _) rfl (by kernel_rfl) rfl (by first | exact hI.c0 rfl) | exact rLd rfl (by kernel_rfl) rfl (by first | exact hI.c0 rfl)) ?_
        refine WL_val rfl rfl rfl (rLen rfl Tryd.underlying65 rfl) ?_
        refine WL_val rfl rfl rfl (by first | exact rMoveI rfl rfl | exact rMove rfl) ?_
        refine WL_nil ?_
        replace hI := hI.d0
        refine W_block ?_
        refine W_loop (fun ρ w => ∃ j : Nat, j ≤ ops.length ∧ Has ρ [(34, .int .i64 j), (33, .int .i64 ops.length), (32, .slice A3 ops.length c3), (8, .int .i64 k), (26, .int .i64 k), (25, .int .i64 n), (24, .slice (some ⟨b, f, none⟩) n c), (1, .pointer (some ⟨b1, 0, none⟩)), (4, .pointer (some ⟨b4, 0, none⟩)), (6, .func (.func 29) #[] #[.pointer (some ⟨b1, 0, none⟩)]), (7, .slice (some ⟨b22, 0, none⟩) (6 : Nat) (6 : Nat))] ∧
          Inv (fun _ => False) w0 w [B b22 4 (boolC [false, abB t (evsTo t k j), beB t (evsTo t k j), false, false, false]), B b4 43 (edgesC o1 o2 o3 n), G3 loB hiB (.slice (some ⟨o1, 0, none⟩) n n) (.slice (some ⟨o2, 0, none⟩) n n) (.slice (some ⟨o3, 0, none⟩) n n) n (overF g) (seenF t) (anewF t g), B b1 29 #[.slice (some ⟨b, f, none⟩) n c, .slice A2 n2 c2]]) (fun ρ _ => ops.length - cnt (ρ 34))
          ⟨0, by omega, ⟨rfl, rfl, rfl, rfl, rfl, rfl, rfl, rfl, rfl, rfl, rfl, trivial⟩, hI⟩ ?_
        clear hI
        intro ρ w hI
        obtain ⟨j, hj, hH, hI⟩ := hI
        obtain ⟨σ, rfl⟩ := hH.open
        clear hH
        by_cases hjm : j < ops.length
        · obtain ⟨y, hy⟩ : ∃ y, ops[j]? = some y := ⟨_, List.getElem?_eq_getElem hjm⟩
          obtain ⟨bo, fo, rfl, q0, q1, q2, q3, q4⟩ := p5.get hy
          have z34 := ((hok.2.2.1 _ (List.mem_of_getElem? hx)).2 y (List.mem_of_getElem? hy)).1
          rw [hl] at z34
          have hAB := ab_step (t := t) (k := k) (j := j) (o := y) (by rw [hOA]; exact hy)
          have hBE := be_step (t := t) (k := k) (j := j) (o := y) (by rw [hOA]; exact hy)
          obtain ⟨ow, ok, os, on⟩ := y
          dsimp only at q1 q2 q3 q4 z34 hAB hBE
          refine W_seq ?_
          refine W_region ?_
          refine WL_val rfl rfl rfl (by first | exact rLssT rfl rfl rfl (by omega) | exact rLssF rfl rfl rfl (by omega) | exact rLss rfl rfl rfl) ?_
          refine WL_nil ?_
          refine W_seq ?_
          refine W_cond true rfl ?_
          refine W_skip ?_
          refine W_seq_cut (fun ρ w => Has ρ [(34, .int .i64 j), (33, .int .i64 ops.length), (32, .slice (some ⟨bo, fo, none⟩) ops.length c3), (8, .int .i64 k), (26, .int .i64 k), (25, .int .i64 n), (24, .slice (some ⟨b, f, none⟩) n c), (1, .pointer (some ⟨b1, 0, none⟩)), (4, .pointer (some ⟨b4, 0, none⟩)), (6, .func (.func 29) #[] #[.pointer (some ⟨b1, 0, none⟩)]), (7, .slice (some ⟨b22, 0, none⟩) (6 : Nat) (6 : Nat))] ∧
            Inv (fun _ => False) w0 w [B b22 4 (boolC [false, abB t (evsTo t k (j + 1)), beB t (evsTo t k (j + 1)), false, false, false]), B b4 43 (edgesC o1 o2 o3 n), G3 loB hiB (.slice (some ⟨o1, 0, none⟩) n n) (.slice (some ⟨o2, 0, none⟩) n n) (.slice (some ⟨o3, 0, none⟩) n n) n (overF g) (seenF t) (anewF t g), B b1 29 #[.slice (some ⟨b, f, none⟩) n c, .slice A2 n2 c2]]) ?_ ?_
          · refine W_block ?_
            have hCON : conB t (k, ⟨ow, ok, os, on⟩) = (com && !ow && !decide (os = -1) && !decide (os = k)) := by unfold conB; rw [hCA]
            generalize abB t (evsTo t k j) = ab at *
            generalize beB t (evsTo t k j) = be at *
            refine W_seq ?_
            refine W_region ?_
            refine WL_val rfl rfl rfl (rIdx (sz := 4) rfl Tryd.underlying65 (by kernel_rfl) rfl rfl (by omega)) ?_
            refine WL_val rfl rfl rfl (by first | exact rLdB (n := 4) rfl (by kernel_rfl) (by kernel_rfl) rfl rfl hI.g0 | exact rLd4 rfl (by kernel_rfl) (by kernel_rfl) rfl (by first | exact hI.c0 rfl | exact hI.oldp q1 | exact q1 | exact hI.oldp q2 | exact q2 | exact hI.oldp q3 | exact q3 | exact hI.oldp q4 | exact q4) (by first | exact hI.c0 rfl | exact hI.oldp q1 | exact q1 | exact hI.oldp q2 | exact q2 | exact hI.oldp q3 | exact q3 | exact hI.oldp q4 | exact q4) (by first | exact hI.c0 rfl | exact hI.oldp q1 | exact q1 | exact hI.oldp q2 | exact q2 | exact hI.oldp q3 | exact q3 | exact hI.oldp q4 | exact q4) (by first | exact hI.c0 rfl | exact hI.oldp q1 | exact q1 | exact hI.oldp q2 | exact q2 | exact hI.oldp q3 | exact q3 | exact hI.oldp q4 | exact q4)) ?_
            refine WL_alloc (u := .agg #[.bool false, .int .i64 0, .int .i64 0, .int .i64 0]) (vs := #[.bool false, .int .i64 0, .int .i64 0, .int .i64 0]) hI rfl rfl rfl rfl (by kernel_rfl) rfl ?_
            clear hI; rintro b11 w - - hI
            first | refine WL_stw0 (u := .agg _) (vs := #[_, _, _, _]) (n := 4) hI rfl rfl rfl rfl rfl rfl (by kernel_rfl) rfl rfl rfl ?_
            clear hI; intro w hI
            refine WL_nil ?_
            refine W_seq ?_
            refine W_seq ?_
            refine W_region ?_
            refine WL_val rfl rfl rfl (by first | exact rMoveF rfl rfl | exact rMove rfl) ?_
            refine WL_val rfl rfl rfl (by first | exact rMoveI rfl rfl | exact rMove rfl) ?_
            -- STOP: call ['Op.call', ('st', {'callee': ['Callee.value', ['Operand.tmp', '38']], 'args': ('arr', [['Operand.tmp', '39']]), 'argTypes': ('arr', ['3'])})]
            refine WL_call rfl rfl rfl (rCallF (first := []) (cap := [_]) (vs := [.int .i64 _, .pointer _]) rfl rfl Tryd.func29 rfl rfl rfl) ?_
            refine (icommits_any b1 (some ⟨b, f, none⟩) n c k t D _ (hI.c4 rfl) (h.pure hI.pu) hl hkn).mono ?_
            rintro e w1 ⟨rfl, rfl⟩
            refine ⟨.bool com, by rw [hCA], ?_⟩
            cases com
            · refine WL_val rfl rfl rfl (by first | exact rNotT rfl rfl | exact rNotF rfl rfl | exact rNot rfl rfl) ?_
              refine WL_val rfl rfl rfl (by first | exact rMoveB rfl rfl | exact rMove rfl) ?_
              first | refine WL_val rfl rfl rfl (by first | exact rFldN (off := 0) rfl (by kernel_rfl) rfl | exact rFld0 rfl (by kernel_rfl) rfl) ?_ | refine WL_skip rfl rfl rfl ?_
              first | refine WL_val rfl rfl rfl (by first | exact rLd (v := .bool _) rfl (by kernel_rfl) rfl (by first | exact hI.c0 rfl) | exact rLd rfl (by kernel_rfl) rfl (by first | exact hI.c0 rfl)) ?_ | refine WL_skip rfl rfl rfl ?_
              refine WL_val rfl rfl rfl (by first | exact rPickTB rfl rfl rfl | exact rPickFB rfl rfl rfl | exact rPickB rfl rfl rfl rfl) ?_
              refine WL_val rfl rfl rfl (by first | exact rMoveB rfl rfl | exact rMove rfl) ?_
              first | refine WL_val rfl rfl rfl (by first | exact rFldN (off := 2) rfl (by kernel_rfl) rfl | exact rFld (off := 2) rfl (by kernel_rfl) rfl) ?_ | refine WL_skip rfl rfl rfl ?_
              first | refine WL_val rfl rfl rfl (by first | exact rLd (v := .int .i64 _) rfl (by kernel_rfl) rfl (by first | exact hI.c0 rfl) | exact rLd rfl (by kernel_rfl) rfl (by first | exact hI.c0 rfl)) ?_ | refine WL_skip rfl rfl rfl ?_
              first | refine WL_val rfl rfl rfl (by first | exact rEqlT rfl rfl rfl (by omega) | exact rEqlF rfl rfl rfl (by omega) | exact rEql rfl rfl rfl) ?_ | refine WL_skip rfl rfl rfl ?_
              refine WL_val rfl rfl rfl (by first | exact rPickTB rfl rfl rfl | exact rPickFB rfl rfl rfl | exact rPickB rfl rfl rfl rfl) ?_
              refine WL_val rfl rfl rfl (by first | exact rMoveB rfl rfl | exact rMove rfl) ?_
              first | refine WL_val rfl rfl rfl (by first | exact rFldN (off := 2) rfl (by kernel_rfl) rfl | exact rFld (off := 2) rfl (by kernel_rfl) rfl) ?_ | refine WL_skip rfl rfl rfl ?_
              first | refine WL_val rfl rfl rfl (by first | exact rLd (v := .int .i64 _) rfl (by kernel_rfl) rfl (by first | exact hI.c0 rfl) | exact rLd rfl (by kernel_rfl) rfl (by first | exact hI.c0 rfl)) ?_ | refine WL_skip rfl rfl rfl ?_
              first | refine WL_val rfl rfl rfl (by first | exact rMoveI rfl rfl | exact rMove rfl) ?_ | refine WL_skip rfl rfl rfl ?_
              first | refine WL_val rfl rfl rfl (by first | exact rEqlT rfl rfl rfl (by omega) | exact rEqlF rfl rfl rfl (by omega) | exact rEql rfl rfl rfl) ?_ | refine WL_skip rfl rfl rfl ?_
              refine WL_val rfl rfl rfl (by first | exact rPickTB rfl rfl rfl | exact rPickFB rfl rfl rfl | exact rPickB rfl rfl rfl rfl) ?_
              refine WL_nil ?_
              refine W_cond true rfl ?_
              refine W_exit ?_
              refine ⟨⟨rfl, rfl, rfl, rfl, rfl, rfl, rfl, rfl, rfl, rfl, rfl, trivial⟩, ?_⟩
              rw [hAB, hBE, hCON]
              simpa using hI.d0
            cases ow
            rotate_left
            · refine WL_val rfl rfl rfl (by first | exact rNotT rfl rfl | exact rNotF rfl rfl | exact rNot rfl rfl) ?_
              refine WL_val rfl rfl rfl (by first | exact rMoveB rfl rfl | exact rMove rfl) ?_
              first | refine WL_val rfl rfl rfl (by first | exact rFldN (off := 0) rfl (by kernel_rfl) rfl | exact rFld0 rfl (by kernel_rfl) rfl) ?_ | refine WL_skip rfl rfl rfl ?_
              first | refine WL_val rfl rfl rfl (by first | exact rLd (v := .bool _) rfl (by kernel_rfl) rfl (by first | exact hI.c0 rfl) | exact rLd rfl (by kernel_rfl) rfl (by first | exact hI.c0 rfl)) ?_ | refine WL_skip rfl rfl rfl ?_
              refine WL_val rfl rfl rfl (by first | exact rPickTB rfl rfl rfl | exact rPickFB rfl rfl rfl | exact rPickB rfl rfl rfl rfl) ?_
              refine WL_val rfl rfl rfl (by first | exact rMoveB rfl rfl | exact rMove rfl) ?_
              first | refine WL_val rfl rfl rfl (by first | exact rFldN (off := 2) rfl (by kernel_rfl) rfl | exact rFld (off := 2) rfl (by kernel_rfl) rfl) ?_ | refine WL_skip rfl rfl rfl ?_
              first | refine WL_val rfl rfl rfl (by first | exact rLd (v := .int .i64 _) rfl (by kernel_rfl) rfl (by first | exact hI.c0 rfl) | exact rLd rfl (by kernel_rfl) rfl (by first | exact hI.c0 rfl)) ?_ | refine WL_skip rfl rfl rfl ?_
              first | refine WL_val rfl rfl rfl (by first | exact rEqlT rfl rfl rfl (by omega) | exact rEqlF rfl rfl rfl (by omega) | exact rEql rfl rfl rfl) ?_ | refine WL_skip rfl rfl rfl ?_
              refine WL_val rfl rfl rfl (by first | exact rPickTB rfl rfl rfl | exact rPickFB rfl rfl rfl | exact rPickB rfl rfl rfl rfl) ?_
              refine WL_val rfl rfl rfl (by first | exact rMoveB rfl rfl | exact rMove rfl) ?_
              first | refine WL_val rfl rfl rfl (by first | exact rFldN (off := 2) rfl (by kernel_rfl) rfl | exact rFld (off := 2) rfl (by kernel_rfl) rfl) ?_ | refine WL_skip rfl rfl rfl ?_
              first | refine WL_val rfl rfl rfl (by first | exact rLd (v := .int .i64 _) rfl (by kernel_rfl) rfl (by first | exact hI.c0 rfl) | exact rLd rfl (by kernel_rfl) rfl (by first | exact hI.c0 rfl)) ?_ | refine WL_skip rfl rfl rfl ?_
              first | refine WL_val rfl rfl rfl (by first | exact rMoveI rfl rfl | exact rMove rfl) ?_ | refine WL_skip rfl rfl rfl ?_
              first | refine WL_val rfl rfl rfl (by first | exact rEqlT rfl rfl rfl (by omega) | exact rEqlF rfl rfl rfl (by omega) | exact rEql rfl rfl rfl) ?_ | refine WL_skip rfl rfl rfl ?_
              refine WL_val rfl rfl rfl (by first | exact rPickTB rfl rfl rfl | exact rPickFB rfl rfl rfl | exact rPickB rfl rfl rfl rfl) ?_
              refine WL_nil ?_
              refine W_cond true rfl ?_
              refine W_exit ?_
              refine ⟨⟨rfl, rfl, rfl, rfl, rfl, rfl, rfl, rfl, rfl, rfl, rfl, trivial⟩, ?_⟩
              rw [hAB, hBE, hCON]
              simpa using hI.d0
            by_cases hos : os = -1
            · subst hos
              refine WL_val rfl rfl rfl (by first | exact rNotT rfl rfl | exact rNotF rfl rfl | exact rNot rfl rfl) ?_
              refine WL_val rfl rfl rfl (by first | exact rMoveB rfl rfl | exact rMove rfl) ?_
              first | refine WL_val rfl rfl rfl (by first | exact rFldN (off := 0) rfl (by kernel_rfl) rfl | exact rFld0 rfl (by kernel_rfl) rfl) ?_ | refine WL_skip rfl rfl rfl ?_
              first | refine WL_val rfl rfl rfl (by first | exact rLd (v := .bool _) rfl (by kernel_rfl) rfl (by first | exact hI.c0 rfl) | exact rLd rfl (by kernel_rfl) rfl (by first | exact hI.c0 rfl)) ?_ | refine WL_skip rfl rfl rfl ?_
              refine WL_val rfl rfl rfl (by first | exact rPickTB rfl rfl rfl | exact rPickFB rfl rfl rfl | exact rPickB rfl rfl rfl rfl) ?_
              refine WL_val rfl rfl rfl (by first | exact rMoveB rfl rfl | exact rMove rfl) ?_
              first | refine WL_val rfl rfl rfl (by first | exact rFldN (off := 2) rfl (by kernel_rfl) rfl | exact rFld (off := 2) rfl (by kernel_rfl) rfl) ?_ | refine WL_skip rfl rfl rfl ?_
              first | refine WL_val rfl rfl rfl (by first | exact rLd (v := .int .i64 _) rfl (by kernel_rfl) rfl (by first | exact hI.c0 rfl) | exact rLd rfl (by kernel_rfl) rfl (by first | exact hI.c0 rfl)) ?_ | refine WL_skip rfl rfl rfl ?_
              first | refine WL_val rfl rfl rfl (by first | exact rEqlT rfl rfl rfl (by omega) | exact rEqlF rfl rfl rfl (by omega) | exact rEql rfl rfl rfl) ?_ | refine WL_skip rfl rfl rfl ?_
              refine WL_val rfl rfl rfl (by first | exact rPickTB rfl rfl rfl | exact rPickFB rfl rfl rfl | exact rPickB rfl rfl rfl rfl) ?_
              refine WL_val rfl rfl rfl (by first | exact rMoveB rfl rfl | exact rMove rfl) ?_
              first | refine WL_val rfl rfl rfl (by first | exact rFldN (off := 2) rfl (by kernel_rfl) rfl | exact rFld (off := 2) rfl (by kernel_rfl) rfl) ?_ | refine WL_skip rfl rfl rfl ?_
              first | refine WL_val rfl rfl rfl (by first | exact rLd (v := .int .i64 _) rfl (by kernel_rfl) rfl (by first | exact hI.c0 rfl) | exact rLd rfl (by kernel_rfl) rfl (by first | exact hI.c0 rfl)) ?_ | refine WL_skip rfl rfl rfl ?_
              first | refine WL_val rfl rfl rfl (by first | exact rMoveI rfl rfl | exact rMove rfl) ?_ | refine WL_skip rfl rfl rfl ?_
              first | refine WL_val rfl rfl rfl (by first | exact rEqlT rfl rfl rfl (by omega) | exact rEqlF rfl rfl rfl (by omega) | exact rEql rfl rfl rfl) ?_ | refine WL_skip rfl rfl rfl ?_
              refine WL_val rfl rfl rfl (by first | exact rPickTB rfl rfl rfl | exact rPickFB rfl rfl rfl | exact rPickB rfl rfl rfl rfl) ?_
              refine WL_nil ?_
              refine W_cond true rfl ?_
              refine W_exit ?_
              refine ⟨⟨rfl, rfl, rfl, rfl, rfl, rfl, rfl, rfl, rfl, rfl, rfl, trivial⟩, ?_⟩
              rw [hAB, hBE, hCON]
              simpa using hI.d0
            obtain ⟨i, rfl⟩ : ∃ i : Nat, os = i := ⟨os.toNat, by omega⟩
            have hin : i < n := by omega
            by_cases hik : i = k
            · subst hik
              refine WL_val rfl rfl rfl (by first | exact rNotT rfl rfl | exact rNotF rfl rfl | exact rNot rfl rfl) ?_
              refine WL_val rfl rfl rfl (by first | exact rMoveB rfl rfl | exact rMove rfl) ?_
              first | refine WL_val rfl rfl rfl (by first | exact rFldN (off := 0) rfl (by kernel_rfl) rfl | exact rFld0 rfl (by kernel_rfl) rfl) ?_ | refine WL_skip rfl rfl rfl ?_
              first | refine WL_val rfl rfl rfl (by first | exact rLd (v := .bool _) rfl (by kernel_rfl) rfl (by first | exact hI.c0 rfl) | exact rLd rfl (by kernel_rfl) rfl (by first | exact hI.c0 rfl)) ?_ | refine WL_skip rfl rfl rfl ?_
              refine WL_val rfl rfl rfl (by first | exact rPickTB rfl rfl rfl | exact rPickFB rfl rfl rfl | exact rPickB rfl rfl rfl rfl) ?_
              refine WL_val rfl rfl rfl (by first | exact rMoveB rfl rfl | exact rMove rfl) ?_
              first | refine WL_val rfl rfl rfl (by first | exact rFldN (off := 2) rfl (by kernel_rfl) rfl | exact rFld (off := 2) rfl (by kernel_rfl) rfl) ?_ | refine WL_skip rfl rfl rfl ?_
              first | refine WL_val rfl rfl rfl (by first | exact rLd (v := .int .i64 _) rfl (by kernel_rfl) rfl (by first | exact hI.c0 rfl) | exact rLd rfl (by kernel_rfl) rfl (by first | exact hI.c0 rfl)) ?_ | refine WL_skip rfl rfl rfl ?_
              first | refine WL_val rfl rfl rfl (by first | exact rEqlT rfl rfl rfl (by omega) | exact rEqlF rfl rfl rfl (by omega) | exact rEql rfl rfl rfl) ?_ | refine WL_skip rfl rfl rfl ?_
              refine WL_val rfl rfl rfl (by first | exact rPickTB rfl rfl rfl | exact rPickFB rfl rfl rfl | exact rPickB rfl rfl rfl rfl) ?_
              refine WL_val rfl rfl rfl (by first | exact rMoveB rfl rfl | exact rMove rfl) ?_
              first | refine WL_val rfl rfl rfl (by first | exact rFldN (off := 2) rfl (by kernel_rfl) rfl | exact rFld (off := 2) rfl (by kernel_rfl) rfl) ?_ | refine WL_skip rfl rfl rfl ?_
              first | refine WL_val rfl rfl rfl (by first | exact rLd (v := .int .i64 _) rfl (by kernel_rfl) rfl (by first | exact hI.c0 rfl) | exact rLd rfl (by kernel_rfl) rfl (by first | exact hI.c0 rfl)) ?_ | refine WL_skip rfl rfl rfl ?_
              first | refine WL_val rfl rfl rfl (by first | exact rMoveI rfl rfl | exact rMove rfl) ?_ | refine WL_skip rfl rfl rfl ?_
              first | refine WL_val rfl rfl rfl (by first | exact rEqlT rfl rfl rfl (by omega) | exact rEqlF rfl rfl rfl (by omega) | exact rEql rfl rfl rfl) ?_ | refine WL_skip rfl rfl rfl ?_
              refine WL_val rfl rfl rfl (by first | exact rPickTB rfl rfl rfl | exact rPickFB rfl rfl rfl | exact rPickB rfl rfl rfl rfl) ?_
              refine WL_nil ?_
              refine W_cond true rfl ?_
              refine W_exit ?_
              refine ⟨⟨rfl, rfl, rfl, rfl, rfl, rfl, rfl, rfl, rfl, rfl, rfl, trivial⟩, ?_⟩
              rw [hAB, hBE, hCON]
              simpa using hI.d0
            refine WL_val rfl rfl rfl (by first | exact rNotT rfl rfl | exact rNotF rfl rfl | exact rNot rfl rfl) ?_
            refine WL_val rfl rfl rfl (by first | exact rMoveB rfl rfl | exact rMove rfl) ?_
            first | refine WL_val rfl rfl rfl (by first | exact rFldN (off := 0) rfl (by kernel_rfl) rfl | exact rFld0 rfl (by kernel_rfl) rfl) ?_ | refine WL_skip rfl rfl rfl ?_
            first | refine WL_val rfl rfl rfl (by first | exact rLd (v := .bool _) rfl (by kernel_rfl) rfl (by first | exact hI.c0 rfl) | exact rLd rfl (by kernel_rfl) rfl (by first | exact hI.c0 rfl)) ?_ | refine WL_skip rfl rfl rfl ?_
            refine WL_val rfl rfl rfl (by first | exact rPickTB rfl rfl rfl | exact rPickFB rfl rfl rfl | exact rPickB rfl rfl rfl rfl) ?_
            refine WL_val rfl rfl rfl (by first | exact rMoveB rfl rfl | exact rMove rfl) ?_
            first | refine WL_val rfl rfl rfl (by first | exact rFldN (off := 2) rfl (by kernel_rfl) rfl | exact rFld (off := 2) rfl (by kernel_rfl) rfl) ?_ | refine WL_skip rfl rfl rfl ?_
            first | refine WL_val rfl rfl rfl (by first | exact rLd (v := .int .i64 _) rfl (by kernel_rfl) rfl (by first | exact hI.c0 rfl) | exact rLd rfl (by kernel_rfl) rfl (by first | exact hI.c0 rfl)) ?_ | refine WL_skip rfl rfl rfl ?_
            first | refine WL_val rfl rfl rfl (by first | exact rEqlT rfl rfl rfl (by omega) | exact rEqlF rfl rfl rfl (by omega) | exact rEql rfl rfl rfl) ?_ | refine WL_skip rfl rfl rfl ?_
            refine WL_val rfl rfl rfl (by first | exact rPickTB rfl rfl rfl | exact rPickFB rfl rfl rfl | exact rPickB rfl rfl rfl rfl) ?_
            refine WL_val rfl rfl rfl (by first | exact rMoveB rfl rfl | exact rMove rfl) ?_
            first | refine WL_val rfl rfl rfl (by first | exact rFldN (off := 2) rfl (by kernel_rfl) rfl | exact rFld (off := 2) rfl (by kernel_rfl) rfl) ?_ | refine WL_skip rfl rfl rfl ?_
            first | refine WL_val rfl rfl rfl (by first | exact rLd (v := .int .i64 _) rfl (by kernel_rfl) rfl (by first | exact hI.c0 rfl) | exact rLd rfl (by kernel_rfl) rfl (by first | exact hI.c0 rfl)) ?_ | refine WL_skip rfl rfl rfl ?_
            first | refine WL_val rfl rfl rfl (by first | exact rMoveI rfl rfl | exact rMove rfl) ?_ | refine WL_skip rfl rfl rfl ?_
            first | refine WL_val rfl rfl rfl (by first | exact rEqlT rfl rfl rfl (by omega) | exact rEqlF rfl rfl rfl (by omega) | exact rEql rfl rfl rfl) ?_ | refine WL_skip rfl rfl rfl ?_
            refine WL_val rfl rfl rfl (by first | exact rPickTB rfl rfl rfl | exact rPickFB rfl rfl rfl | exact rPickB rfl rfl rfl rfl) ?_
            refine WL_nil ?_
            refine W_cond false rfl ?_
            refine W_skip ?_
            have hCON2 : conB t (k, ⟨false, ok, (i : Int), on⟩) = true := by
              rw [hCON]
              have h1 : ¬ (i : Int) = (k : Int) := by omega
              simp [hos, h1]
            rw [hCON2] at hAB hBE
            obtain ⟨x2, hx2⟩ : ∃ x, t[i]? = some x := ⟨_, List.getElem?_eq_getElem (by omega)⟩
            obtain ⟨bx, fx, A6, c6, ebx, p60, p61, p62, p63, p64, p65⟩ := h.get hx2
            injection ebx with ebx
            injection ebx with ebx1 ebx2
            subst ebx1 ebx2
            obtain ⟨ops6, com6⟩ := x2
            dsimp only at p61 p62 p63 p64 p65
            have hV : opsAt t (i : Int) = ops6 := by simp [opsAt, hx2]
            have hC6 : comAt t (i : Int) = com6 := by simp [comAt, hx2]
            rw [hV] at hBE
            rw [hC6] at hAB
            have hvb := versF_le ops6 ok
            refine W_seq_cut (fun ρ w => Has ρ [(34, .int .i64 j), (33, .int .i64 ops.length), (32, .slice (some ⟨bo, fo, none⟩) ops.length c3), (8, .int .i64 k), (26, .int .i64 k), (25, .int .i64 n), (24, .slice (some ⟨b, f, none⟩) n c), (1, .pointer (some ⟨b1, 0, none⟩)), (4, .pointer (some ⟨b4, 0, none⟩)), (6, .func (.func 29) #[] #[.pointer (some ⟨b1, 0, none⟩)]), (7, .slice (some ⟨b22, 0, none⟩) (6 : Nat) (6 : Nat)), (11, .pointer (some ⟨b11, 0, none⟩))] ∧
              Inv (fun _ => False) w0 w [B b11 70 #[.bool false, .int .i64 ok, .int .i64 (i : Int), .int .i64 on], B b22 4 (boolC [false, abB t (evsTo t k (j + 1)), be, false, false, false]), B b4 43 (edgesC o1 o2 o3 n), G3 loB hiB (.slice (some ⟨o1, 0, none⟩) n n) (.slice (some ⟨o2, 0, none⟩) n n) (.slice (some ⟨o3, 0, none⟩) n n) n (overF g) (seenF t) (anewF t g), B b1 29 #[.slice (some ⟨b, f, none⟩) n c, .slice A2 n2 c2]]) ?_ ?_
            · rw [hAB]
              cases ab
              · refine W_region ?_
                refine WL_val rfl rfl rfl (by first | exact rMoveS rfl rfl | exact rMove rfl) ?_
                refine WL_val rfl rfl rfl (by first | exact rMoveS rfl rfl | exact rMove rfl) ?_
                refine WL_val rfl rfl rfl (by first | exact rIdx0 (i := 1) rfl Tryd.underlying47 (by kernel_rfl) rfl rfl rfl (by omega) | exact rIdx1 (i := 1) rfl Tryd.underlying47 (by kernel_rfl) rfl rfl (by omega)) ?_
                refine WL_val rfl rfl rfl (by first | exact rLd (v := .bool _) rfl (by kernel_rfl) rfl (by first | exact hI.c0 rfl | exact hI.c1 rfl) | exact rLd rfl (by kernel_rfl) rfl (by first | exact hI.c0 rfl | exact hI.c1 rfl)) ?_
                refine WL_val rfl rfl rfl (by first | exact rMoveB rfl rfl | exact rMove rfl) ?_
                first | refine WL_val rfl rfl rfl (by first | exact rMoveF rfl rfl | exact rMove rfl) ?_ | refine WL_skip rfl rfl rfl ?_
                first | refine WL_val rfl rfl rfl (by first | exact rFldN (off := 2) rfl (by kernel_rfl) rfl | exact rFld (off := 2) rfl (by kernel_rfl) rfl) ?_ | refine WL_skip rfl rfl rfl ?_
                first | refine WL_val rfl rfl rfl (by first | exact rLd (v := .int .i64 _) rfl (by kernel_rfl) rfl (by first | exact hI.c0 rfl | exact hI.c1 rfl) | exact rLd rfl (by kernel_rfl) rfl (by first | exact hI.c0 rfl | exact hI.c1 rfl)) ?_ | refine WL_skip rfl rfl rfl ?_
                -- STOP: call ['Op.call', ('st', {'callee': ['Callee.value', ['Operand.tmp', '62']], 'args': ('arr', [['Operand.tmp', '64']]), 'argTypes': ('arr', ['3'])})]
                refine WL_call rfl rfl rfl (rCallF (first := []) (cap := [_]) (vs := [.int .i64 _, .pointer _]) rfl rfl Tryd.func29 rfl rfl rfl) ?_
                refine (icommits_any b1 (some ⟨b, f, none⟩) n c i t D _ (hI.c4 rfl) (h.pure hI.pu) hl hin).mono ?_
                rintro e w1 ⟨rfl, rfl⟩
                refine ⟨.bool com6, by rw [hC6], ?_⟩
                first | refine WL_val rfl rfl rfl (by first | exact rNotT rfl rfl | exact rNotF rfl rfl | exact rNot rfl rfl) ?_ | refine WL_skip rfl rfl rfl ?_
                refine WL_val rfl rfl rfl (by first | exact rPickTB rfl rfl rfl | exact rPickFB rfl rfl rfl | exact rPickB rfl rfl rfl rfl) ?_
                refine WL_val rfl rfl rfl (by first | exact rIdx0 (i := 1) rfl Tryd.underlying47 (by kernel_rfl) rfl rfl rfl (by omega) | exact rIdx1 (i := 1) rfl Tryd.underlying47 (by kernel_rfl) rfl rfl (by omega)) ?_
                first | refine WL_stw0 (u := .bool _) (vs := #[_]) (n := 1) hI rfl rfl rfl rfl rfl rfl (by kernel_rfl) rfl rfl rfl ?_ | refine WL_stw1 (u := .bool _) (vs := #[_]) (n := 1) hI rfl rfl rfl rfl rfl rfl (by kernel_rfl) rfl rfl rfl ?_ | refine WL_st0 (u := .bool _) hI rfl rfl rfl rfl rfl rfl (by kernel_rfl) rfl rfl rfl ?_ | refine WL_st1 (u := .bool _) hI rfl rfl rfl rfl rfl rfl (by kernel_rfl) rfl rfl rfl ?_
                clear hI; intro w hI
                refine WL_nil ?_
                refine ⟨⟨rfl, rfl, rfl, rfl, rfl, rfl, rfl, rfl, rfl, rfl, rfl, rfl, trivial⟩, ?_⟩
                rw [boolC_set] at hI
                simpa using hI
              · refine W_region ?_
                refine WL_val rfl rfl rfl (by first | exact rMoveS rfl rfl | exact rMove rfl) ?_
                refine WL_val rfl rfl rfl (by first | exact rMoveS rfl rfl | exact rMove rfl) ?_
                refine WL_val rfl rfl rfl (by first | exact rIdx0 (i := 1) rfl Tryd.underlying47 (by kernel_rfl) rfl rfl rfl (by omega) | exact rIdx1 (i := 1) rfl Tryd.underlying47 (by kernel_rfl) rfl rfl (by omega)) ?_
                refine WL_val rfl rfl rfl (by first | exact rLd (v := .bool _) rfl (by kernel_rfl) rfl (by first | exact hI.c0 rfl | exact hI.c1 rfl) | exact rLd rfl (by kernel_rfl) rfl (by first | exact hI.c0 rfl | exact hI.c1 rfl)) ?_
                refine WL_val rfl rfl rfl (by first | exact rMoveB rfl rfl | exact rMove rfl) ?_
                refine WL_skip rfl rfl rfl ?_
                refine WL_skip rfl rfl rfl ?_
                refine WL_skip rfl rfl rfl ?_
                refine WL_skip rfl rfl rfl ?_
                refine WL_skip rfl rfl rfl ?_
                refine WL_val rfl rfl rfl (by first | exact rPickTB rfl rfl rfl | exact rPickFB rfl rfl rfl | exact rPickB rfl rfl rfl rfl) ?_
                refine WL_val rfl rfl rfl (by first | exact rIdx0 (i := 1) rfl Tryd.underlying47 (by kernel_rfl) rfl rfl rfl (by omega) | exact rIdx1 (i := 1) rfl Tryd.underlying47 (by kernel_rfl) rfl rfl (by omega)) ?_
                first | refine WL_stw0 (u := .bool _) (vs := #[_]) (n := 1) hI rfl rfl rfl rfl rfl rfl (by kernel_rfl) rfl rfl rfl ?_ | refine WL_stw1 (u := .bool _) (vs := #[_]) (n := 1) hI rfl rfl rfl rfl rfl rfl (by kernel_rfl) rfl rfl rfl ?_ | refine WL_st0 (u := .bool _) hI rfl rfl rfl rfl rfl rfl (by kernel_rfl) rfl rfl rfl ?_ | refine WL_st1 (u := .bool _) hI rfl rfl rfl rfl rfl rfl (by kernel_rfl) rfl rfl rfl ?_
                clear hI; intro w hI
                refine WL_nil ?_
                refine ⟨⟨rfl, rfl, rfl, rfl, rfl, rfl, rfl, rfl, rfl, rfl, rfl, rfl, trivial⟩, ?_⟩
                rw [boolC_set] at hI
                simpa using hI
            · clear hI
              rintro ρ w ⟨hH, hI⟩
              obtain ⟨σ, rfl⟩ := hH.open
              rw [hBE]
              cases be
              · refine W_draw (by kernel_rfl) ?_
                refine WA_inv (T := [20]) hI.drew ?_
                intro Sx hSx hXS
                replace hI := hI.drew
                refine WT_take 0 rfl rfl (by kernel_rfl) (hXS _ hI) rfl (fun W hW => have hI := hSx W hW; (by first | exact rMoveS rfl rfl | exact rMove rfl)) ?_
                refine WT_take 1 rfl rfl (by kernel_rfl) (hXS _ hI) rfl (fun W hW => have hI := hSx W hW; (by first | exact rMoveS rfl rfl | exact rMove rfl)) ?_
                refine WT_take 2 rfl rfl (by kernel_rfl) (hXS _ hI) rfl (fun W hW => have hI := hSx W hW; (by first | exact rIdx0 (i := 2) rfl Tryd.underlying47 (by kernel_rfl) rfl rfl rfl (by omega) | exact rIdx1 (i := 2) rfl Tryd.underlying47 (by kernel_rfl) rfl rfl (by omega))) ?_
                refine WT_take 3 rfl rfl (by kernel_rfl) (hXS _ hI) rfl (fun W hW => have hI := hSx W hW; (by first | exact rLd (v := .bool _) rfl (by kernel_rfl) rfl (by first | exact hI.c0 rfl | exact hI.c1 rfl | exact hI.c2 rfl | exact hI.c3 rfl | exact hI.c4 rfl | exact hI.oldp p61 | exact p61 | exact hI.oldp p62 | exact p62) | exact rLd rfl (by kernel_rfl) rfl (by first | exact hI.c0 rfl | exact hI.c1 rfl | exact hI.c2 rfl | exact hI.c3 rfl | exact hI.c4 rfl | exact hI.oldp p61 | exact p61 | exact hI.oldp p62 | exact p62))) ?_
                refine WT_take 4 rfl rfl (by kernel_rfl) (hXS _ hI) rfl (fun W hW => have hI := hSx W hW; (by first | exact rMoveB rfl rfl | exact rMove rfl)) ?_
                first | refine WT_take 5 rfl rfl (by kernel_rfl) (hXS _ hI) rfl (fun W hW => have hI := hSx W hW; (by first | exact rFldN (off := 3) rfl (by kernel_rfl) rfl | exact rFld (off := 3) rfl (by kernel_rfl) rfl)) ?_ | refine WT_skip 5 rfl rfl (by kernel_rfl) (hXS _ hI) rfl ?_
                first | refine WT_take 6 rfl rfl (by kernel_rfl) (hXS _ hI) rfl (fun W hW => have hI := hSx W hW; (by first | exact rLd (v := .int .i64 _) rfl (by kernel_rfl) rfl (by first | exact hI.c0 rfl | exact hI.c1 rfl | exact hI.c2 rfl | exact hI.c3 rfl | exact hI.c4 rfl | exact hI.oldp p61 | exact p61 | exact hI.oldp p62 | exact p62) | exact rLd rfl (by kernel_rfl) rfl (by first | exact hI.c0 rfl | exact hI.c1 rfl | exact hI.c2 rfl | exact hI.c3 rfl | exact hI.c4 rfl | exact hI.oldp p61 | exact p61 | exact hI.oldp p62 | exact p62))) ?_ | refine WT_skip 6 rfl rfl (by kernel_rfl) (hXS _ hI) rfl ?_
                first | refine WT_take 7 rfl rfl (by kernel_rfl) (hXS _ hI) rfl (fun W hW => have hI := hSx W hW; (by first | exact rFldN (off := 0) rfl (by kernel_rfl) rfl | exact rFld0 rfl (by kernel_rfl) rfl)) ?_ | refine WT_skip 7 rfl rfl (by kernel_rfl) (hXS _ hI) rfl ?_
                first | refine WT_take 8 rfl rfl (by kernel_rfl) (hXS _ hI) rfl (fun W hW => have hI := hSx W hW; (by first | exact rLd (v := .slice _ _ _) rfl (by kernel_rfl) rfl (by first | exact hI.c0 rfl | exact hI.c1 rfl | exact hI.c2 rfl | exact hI.c3 rfl | exact hI.c4 rfl | exact hI.oldp p61 | exact p61 | exact hI.oldp p62 | exact p62) | exact rLd rfl (by kernel_rfl) rfl (by first | exact hI.c0 rfl | exact hI.c1 rfl | exact hI.c2 rfl | exact hI.c3 rfl | exact hI.c4 rfl | exact hI.oldp p61 | exact p61 | exact hI.oldp p62 | exact p62))) ?_ | refine WT_skip 8 rfl rfl (by kernel_rfl) (hXS _ hI) rfl ?_
                first | refine WT_take 9 rfl rfl (by kernel_rfl) (hXS _ hI) rfl (fun W hW => have hI := hSx W hW; (by first | exact rFldN (off := 2) rfl (by kernel_rfl) rfl | exact rFld (off := 2) rfl (by kernel_rfl) rfl)) ?_ | refine WT_skip 9 rfl rfl (by kernel_rfl) (hXS _ hI) rfl ?_
                first | refine WT_take 10 rfl rfl (by kernel_rfl) (hXS _ hI) rfl (fun W hW => have hI := hSx W hW; (by first | exact rLd (v := .int .i64 _) rfl (by kernel_rfl) rfl (by first | exact hI.c0 rfl | exact hI.c1 rfl | exact hI.c2 rfl | exact hI.c3 rfl | exact hI.c4 rfl | exact hI.oldp p61 | exact p61 | exact hI.oldp p62 | exact p62) | exact rLd rfl (by kernel_rfl) rfl (by first | exact hI.c0 rfl | exact hI.c1 rfl | exact hI.c2 rfl | exact hI.c3 rfl | exact hI.c4 rfl | exact hI.oldp p61 | exact p61 | exact hI.oldp p62 | exact p62))) ?_ | refine WT_skip 10 rfl rfl (by kernel_rfl) (hXS _ hI) rfl ?_
                first | refine WT_take 11 rfl rfl (by kernel_rfl) (hXS _ hI) rfl (fun W hW => have hI := hSx W hW; (rIdx (sz := 2) rfl Tryd.underlying26 (by kernel_rfl) rfl rfl (by omega))) ?_ | refine WT_skip 11 rfl rfl (by kernel_rfl) (hXS _ hI) rfl ?_
                first | refine WT_take 12 rfl rfl (by kernel_rfl) (hXS _ hI) rfl (fun W hW => have hI := hSx W hW; (by first | exact rLdB (n := 2) rfl (by kernel_rfl) (by kernel_rfl) rfl rfl hI.g0 | exact rLdB (n := 2) rfl (by kernel_rfl) (by kernel_rfl) rfl rfl hI.g1 | exact rLdB (n := 2) rfl (by kernel_rfl) (by kernel_rfl) rfl rfl hI.g2 | exact rLdB (n := 2) rfl (by kernel_rfl) (by kernel_rfl) rfl rfl hI.g3 | exact rLdB (n := 2) rfl (by kernel_rfl) (by kernel_rfl) rfl rfl hI.g4 | exact rLd2 rfl (by kernel_rfl) (by kernel_rfl) rfl (by first | exact hI.c0 rfl | exact hI.c1 rfl | exact hI.c2 rfl | exact hI.c3 rfl | exact hI.c4 rfl | exact hI.oldp p61 | exact p61 | exact hI.oldp p62 | exact p62) (by first | exact hI.c0 rfl | exact hI.c1 rfl | exact hI.c2 rfl | exact hI.c3 rfl | exact hI.c4 rfl | exact hI.oldp p61 | exact p61 | exact hI.oldp p62 | exact p62))) ?_ | refine WT_skip 12 rfl rfl (by kernel_rfl) (hXS _ hI) rfl ?_
                first | refine WT_take 13 rfl rfl (by kernel_rfl) (hXS _ hI) rfl (fun W hW => have hI := hSx W hW; (by first | exact rFldN (off := 1) rfl (by kernel_rfl) rfl | exact rFld (off := 1) rfl (by kernel_rfl) rfl)) ?_ | refine WT_skip 13 rfl rfl (by kernel_rfl) (hXS _ hI) rfl ?_
                first | refine WT_take 14 rfl rfl (by kernel_rfl) (hXS _ hI) rfl (fun W hW => have hI := hSx W hW; (by first | exact rLd (v := .int .i64 _) rfl (by kernel_rfl) rfl (by first | exact hI.c0 rfl | exact hI.c1 rfl | exact hI.c2 rfl | exact hI.c3 rfl | exact hI.c4 rfl | exact hI.oldp p61 | exact p61 | exact hI.oldp p62 | exact p62) | exact rLd rfl (by kernel_rfl) rfl (by first | exact hI.c0 rfl | exact hI.c1 rfl | exact hI.c2 rfl | exact hI.c3 rfl | exact hI.c4 rfl | exact hI.oldp p61 | exact p61 | exact hI.oldp p62 | exact p62))) ?_ | refine WT_skip 14 rfl rfl (by kernel_rfl) (hXS _ hI) rfl ?_
                refine WT_one 15 rfl (by kernel_rfl) rfl ?_
                refine WL_call rfl rfl rfl (rCall (vs := [.agg _, .int .i64 _]) rfl Tryd.func30 rfl rfl rfl) ?_
                refine (iversions_any A6 c6 _ ok ops6 D _ (p65.pure hI.pu) p63 p64).mono ?_
                rintro e w1 ⟨rfl, hp⟩
                refine ⟨_, rfl, ?_⟩
                replace hI := hI.pure hp
                refine WL_nil ⟨hXS _ hI, ?_⟩
                first | refine WT_take 16 rfl rfl (by kernel_rfl) (hXS _ hI) rfl (fun W hW => have hI := hSx W hW; (by first | exact rSub rfl rfl rfl (by omega) | exact rSubW rfl rfl rfl)) ?_ | refine WT_skip 16 rfl rfl (by kernel_rfl) (hXS _ hI) rfl ?_
                first | refine WT_take 17 rfl rfl (by kernel_rfl) (hXS _ hI) rfl (fun W hW => have hI := hSx W hW; (by first | exact rNeqT rfl rfl rfl (by omega) | exact rNeqF rfl rfl rfl (by omega) | exact rNeq rfl rfl rfl)) ?_ | refine WT_skip 17 rfl rfl (by kernel_rfl) (hXS _ hI) rfl ?_
                refine WT_take 18 rfl rfl (by kernel_rfl) (hXS _ hI) rfl (fun W hW => have hI := hSx W hW; (by first | exact rPickTB rfl rfl rfl | exact rPickFB rfl rfl rfl | exact rPickB rfl rfl rfl rfl)) ?_
                refine WT_take 19 rfl rfl (by kernel_rfl) (hXS _ hI) rfl (fun W hW => have hI := hSx W hW; (by first | exact rIdx0 (i := 2) rfl Tryd.underlying47 (by kernel_rfl) rfl rfl rfl (by omega) | exact rIdx1 (i := 2) rfl Tryd.underlying47 (by kernel_rfl) rfl rfl (by omega))) ?_
                refine WT_A (by kernel_rfl) ?_
                clear hXS hSx
                refine WA_one 20 rfl (by kernel_rfl) ?_
                first | refine WL_stw0 (u := .bool _) (vs := #[_]) (n := 1) hI rfl rfl rfl rfl rfl rfl (by kernel_rfl) rfl rfl rfl ?_ | refine WL_stw1 (u := .bool _) (vs := #[_]) (n := 1) hI rfl rfl rfl rfl rfl rfl (by kernel_rfl) rfl rfl rfl ?_ | refine WL_stw2 (u := .bool _) (vs := #[_]) (n := 1) hI rfl rfl rfl rfl rfl rfl (by kernel_rfl) rfl rfl rfl ?_ | refine WL_stw3 (u := .bool _) (vs := #[_]) (n := 1) hI rfl rfl rfl rfl rfl rfl (by kernel_rfl) rfl rfl rfl ?_ | refine WL_stw4 (u := .bool _) (vs := #[_]) (n := 1) hI rfl rfl rfl rfl rfl rfl (by kernel_rfl) rfl rfl rfl ?_ | refine WL_st0 (u := .bool _) hI rfl rfl rfl rfl rfl rfl (by kernel_rfl) rfl rfl rfl ?_ | refine WL_st1 (u := .bool _) hI rfl rfl rfl rfl rfl rfl (by kernel_rfl) rfl rfl rfl ?_ | refine WL_st2 (u := .bool _) hI rfl rfl rfl rfl rfl rfl (by kernel_rfl) rfl rfl rfl ?_ | refine WL_st3 (u := .bool _) hI rfl rfl rfl rfl rfl rfl (by kernel_rfl) rfl rfl rfl ?_ | refine WL_st4 (u := .bool _) hI rfl rfl rfl rfl rfl rfl (by kernel_rfl) rfl rfl rfl ?_
                clear hI; intro w hI
                refine WL_nil ?_
                refine WA_end (by kernel_rfl) ?_
                refine ⟨⟨rfl, rfl, rfl, rfl, rfl, rfl, rfl, rfl, rfl, rfl, rfl, trivial⟩, ?_⟩
                rw [boolC_set] at hI
                simpa using hI.d0
              · refine W_draw (by kernel_rfl) ?_
                refine WA_inv (T := [20]) hI.drew ?_
                intro Sx hSx hXS
                replace hI := hI.drew
                refine WT_take 0 rfl rfl (by kernel_rfl) (hXS _ hI) rfl (fun W hW => have hI := hSx W hW; (by first | exact rMoveS rfl rfl | exact rMove rfl)) ?_
                refine WT_take 1 rfl rfl (by kernel_rfl) (hXS _ hI) rfl (fun W hW => have hI := hSx W hW; (by first | exact rMoveS rfl rfl | exact rMove rfl)) ?_
                refine WT_take 2 rfl rfl (by kernel_rfl) (hXS _ hI) rfl (fun W hW => have hI := hSx W hW; (by first | exact rIdx0 (i := 2) rfl Tryd.underlying47 (by kernel_rfl) rfl rfl rfl (by omega) | exact rIdx1 (i := 2) rfl Tryd.underlying47 (by kernel_rfl) rfl rfl (by omega))) ?_
                refine WT_take 3 rfl rfl (by kernel_rfl) (hXS _ hI) rfl (fun W hW => have hI := hSx W hW; (by first | exact rLd (v := .bool _) rfl (by kernel_rfl) rfl (by first | exact hI.c0 rfl | exact hI.c1 rfl | exact hI.c2 rfl | exact hI.c3 rfl | exact hI.c4 rfl) | exact rLd rfl (by kernel_rfl) rfl (by first | exact hI.c0 rfl | exact hI.c1 rfl | exact hI.c2 rfl | exact hI.c3 rfl | exact hI.c4 rfl))) ?_
                refine WT_take 4 rfl rfl (by kernel_rfl) (hXS _ hI) rfl (fun W hW => have hI := hSx W hW; (by first | exact rMoveB rfl rfl | exact rMove rfl)) ?_
                refine WT_skip 5 rfl rfl (by kernel_rfl) (hXS _ hI) rfl ?_
                refine WT_skip 6 rfl rfl (by kernel_rfl) (hXS _ hI) rfl ?_
                refine WT_skip 7 rfl rfl (by kernel_rfl) (hXS _ hI) rfl ?_
                refine WT_skip 8 rfl rfl (by kernel_rfl) (hXS _ hI) rfl ?_
                refine WT_skip 9 rfl rfl (by kernel_rfl) (hXS _ hI) rfl ?_
                refine WT_skip 10 rfl rfl (by kernel_rfl) (hXS _ hI) rfl ?_
                refine WT_skip 11 rfl rfl (by kernel_rfl) (hXS _ hI) rfl ?_
                refine WT_skip 12 rfl rfl (by kernel_rfl) (hXS _ hI) rfl ?_
                refine WT_skip 13 rfl rfl (by kernel_rfl) (hXS _ hI) rfl ?_
                refine WT_skip 14 rfl rfl (by kernel_rfl) (hXS _ hI) rfl ?_
                refine WT_skip 15 rfl rfl (by kernel_rfl) (hXS _ hI) rfl ?_
                refine WT_skip 16 rfl rfl (by kernel_rfl) (hXS _ hI) rfl ?_
                refine WT_skip 17 rfl rfl (by kernel_rfl) (hXS _ hI) rfl ?_
                refine WT_take 18 rfl rfl (by kernel_rfl) (hXS _ hI) rfl (fun W hW => have hI := hSx W hW; (by first | exact rPickTB rfl rfl rfl | exact rPickFB rfl rfl rfl | exact rPickB rfl rfl rfl rfl)) ?_
                refine WT_take 19 rfl rfl (by kernel_rfl) (hXS _ hI) rfl (fun W hW => have hI := hSx W hW; (by first | exact rIdx0 (i := 2) rfl Tryd.underlying47 (by kernel_rfl) rfl rfl rfl (by omega) | exact rIdx1 (i := 2) rfl Tryd.underlying47 (by kernel_rfl) rfl rfl (by omega))) ?_
                refine WT_A (by kernel_rfl) ?_
                clear hXS hSx
                refine WA_one 20 rfl (by kernel_rfl) ?_
                first | refine WL_stw0 (u := .bool _) (vs := #[_]) (n := 1) hI rfl rfl rfl rfl rfl rfl (by kernel_rfl) rfl rfl rfl ?_ | refine WL_stw1 (u := .bool _) (vs := #[_]) (n := 1) hI rfl rfl rfl rfl rfl rfl (by kernel_rfl) rfl rfl rfl ?_ | refine WL_stw2 (u := .bool _) (vs := #[_]) (n := 1) hI rfl rfl rfl rfl rfl rfl (by kernel_rfl) rfl rfl rfl ?_ | refine WL_stw3 (u := .bool _) (vs := #[_]) (n := 1) hI rfl rfl rfl rfl rfl rfl (by kernel_rfl) rfl rfl rfl ?_ | refine WL_stw4 (u := .bool _) (vs := #[_]) (n := 1) hI rfl rfl rfl rfl rfl rfl (by kernel_rfl) rfl rfl rfl ?_ | refine WL_st0 (u := .bool _) hI rfl rfl rfl rfl rfl rfl (by kernel_rfl) rfl rfl rfl ?_ | refine WL_st1 (u := .bool _) hI rfl rfl rfl rfl rfl rfl (by kernel_rfl) rfl rfl rfl ?_ | refine WL_st2 (u := .bool _) hI rfl rfl rfl rfl rfl rfl (by kernel_rfl) rfl rfl rfl ?_ | refine WL_st3 (u := .bool _) hI rfl rfl rfl rfl rfl rfl (by kernel_rfl) rfl rfl rfl ?_ | refine WL_st4 (u := .bool _) hI rfl rfl rfl rfl rfl rfl (by kernel_rfl) rfl rfl rfl ?_
                clear hI; intro w hI
                refine WL_nil ?_
                refine WA_end (by kernel_rfl) ?_
                refine ⟨⟨rfl, rfl, rfl, rfl, rfl, rfl, rfl, rfl, rfl, rfl, rfl, trivial⟩, ?_⟩
                rw [boolC_set] at hI
                simpa using hI.d0
          · rintro ρ w ⟨hH, hI⟩
            obtain ⟨σ, rfl⟩ := hH.open
            refine W_region ?_
            refine WL_val rfl rfl rfl (by first | exact rInc rfl rfl rfl (by omega) | exact rAdd rfl rfl rfl (by omega) | exact rAddW rfl rfl rfl) ?_
            refine WL_val rfl rfl rfl (by first | exact rMoveI rfl rfl | exact rMove rfl) ?_
            refine WL_nil ?_
            exact ⟨⟨j + 1, by omega, ⟨rfl, rfl, rfl, rfl, rfl, rfl, rfl, rfl, rfl, rfl, rfl, trivial⟩, hI⟩, by show ops.length - ((j + 1 : Nat) : Int).toNat < ops.length - (j : Int).toNat; omega⟩
        · obtain rfl : j = ops.length := by omega
          refine W_seq ?_
          refine W_region ?_
          refine WL_val rfl rfl rfl (by first | exact rLssT rfl rfl rfl (by omega) | exact rLssF rfl rfl rfl (by omega) | exact rLss rfl rfl rfl) ?_
          refine WL_nil ?_
          refine W_seq ?_
          refine W_cond false rfl ?_
          refine W_exit ?_
          refine ⟨⟨rfl, rfl, rfl, rfl, rfl, rfl, rfl, trivial⟩, ?_⟩
          have h2 := evs_next t k
          rw [hOA] at h2
          rw [← h2]
          exact hI
      · rintro ρ w ⟨hH, hI⟩
        obtain ⟨σ, rfl⟩ := hH.open
        refine W_region ?_
        refine WL_val rfl rfl rfl (by first | exact rInc rfl rfl rfl (by omega) | exact rAdd rfl rfl rfl (by omega) | exact rAddW rfl rfl rfl) ?_
        refine WL_val rfl rfl rfl (by first | exact rMoveI rfl rfl | exact rMove rfl) ?_
        refine WL_nil ?_
        exact ⟨⟨k + 1, by omega, ⟨rfl, rfl, rfl, rfl, rfl, rfl, rfl, trivial⟩, hI⟩, by show n - ((k + 1 : Nat) : Int).toNat < n - (k : Int).toNat; omega⟩
    · obtain rfl : n = k := by omega
      refine W_seq ?_
      refine W_region ?_
      refine WL_val rfl rfl rfl (by first | exact rLssT rfl rfl rfl (by omega) | exact rLssF rfl rfl rfl (by omega) | exact rLss rfl rfl rfl) ?_
      refine WL_nil ?_
      refine W_seq ?_
      refine W_cond false rfl ?_
      refine W_exit ?_
      refine W_seq ?_
      refine W_region ?_
      refine WL_val rfl rfl rfl (by first | exact rFldN (off := 0) rfl (by kernel_rfl) rfl | exact rFld0 rfl (by kernel_rfl) rfl) ?_
      refine WL_val rfl rfl rfl (by first | exact rLd (v := .slice _ _ _) rfl (by kernel_rfl) rfl (by first | exact hI.c0 rfl | exact hI.c1 rfl) | exact rLd rfl (by kernel_rfl) rfl (by first | exact hI.c0 rfl | exact hI.c1 rfl)) ?_
      refine WL_val rfl rfl rfl (by first | exact rFldN (off := 1) rfl (by kernel_rfl) rfl | exact rFld (off := 1) rfl (by kernel_rfl) rfl) ?_
      refine WL_val rfl rfl rfl (by first | exact rLd (v := .slice _ _ _) rfl (by kernel_rfl) rfl (by first | exact hI.c0 rfl | exact hI.c1 rfl) | exact rLd rfl (by kernel_rfl) rfl (by first | exact hI.c0 rfl | exact hI.c1 rfl)) ?_
      refine WL_lit (vs := [_, _]) (qs := [(0, .slice _ _ _), (1, .slice _ _ _)]) [.slice none 0 0, .slice none 0 0] [0, 1] hI rfl rfl rfl rfl rfl rfl Tryd.underlying91 (fun _ => by kernel_rfl) ?_
      clear hI; rintro b95 w - - hI
      refine WL_call rfl rfl rfl (rCall (vs := [.slice _ _ _]) rfl Tryd.func23 rfl rfl rfl) ?_
      have hg := hI.g3
      refine (itogether_any _ _ _ n [overF g, seenF t] _ _ (graphs2 hI.g0 hg.1 hg.2.1) (fun k hk => hk) rfl (by omega) (by omega) (by omega)).mono ?_
      rintro e w1 ⟨rfl, hp⟩
      refine ⟨_, rfl, ?_⟩
      replace hI := hI.d0.fresh (G1.pu hp) (G1.ok (hp.toSq (by omega))) (fun k hk => hk.1)
      generalize w1.heap.size = hiK at hI
      generalize w.heap.size = loK at hI ⊢
      clear hp hg
      refine WL_val rfl rfl rfl (by first | exact rAsgnS rfl rfl | exact rAsgn rfl) ?_
      refine WL_nil ?_
      refine W_seq ?_
      refine W_region ?_
      refine WL_val rfl rfl rfl (by first | exact rMoveS rfl rfl | exact rMove rfl) ?_
      refine WL_val rfl rfl rfl (by first | exact rMoveS rfl rfl | exact rMove rfl) ?_
      refine WL_val rfl rfl rfl (by first | exact rFldN (off := 0) rfl (by kernel_rfl) rfl | exact rFld0 rfl (by kernel_rfl) rfl) ?_
      refine WL_val rfl rfl rfl (by first | exact rLd (v := .slice _ _ _) rfl (by kernel_rfl) rfl (by first | exact hI.c0 rfl | exact hI.c1 rfl | exact hI.c2 rfl | exact hI.c3 rfl) | exact rLd rfl (by kernel_rfl) rfl (by first | exact hI.c0 rfl | exact hI.c1 rfl | exact hI.c2 rfl | exact hI.c3 rfl)) ?_
      refine WL_call rfl rfl rfl (rCall (vs := [.slice _ _ _]) rfl Tryd.func31 rfl rfl rfl) ?_
      refine (iround_any _ _ n (overF g) _ _ hI.g3.1 (by omega)).mono ?_
      rintro e w1 ⟨rfl, hp⟩
      refine ⟨_, rfl, ?_⟩
      replace hI := hI.pure hp
      refine WL_val rfl rfl rfl (by first | exact rMoveS rfl rfl | exact rMove rfl) ?_
      refine WL_call rfl rfl rfl (rCall (vs := [.slice _ _ _]) rfl Tryd.func31 rfl rfl rfl) ?_
      refine (iround_any _ _ n (knownF t g) _ _ hI.g0 (by omega)).mono ?_
      rintro e w1 ⟨rfl, hp⟩
      refine ⟨_, rfl, ?_⟩
      replace hI := hI.pure hp
      refine WL_val rfl rfl rfl (by first | exact rIdx0 (i := 0) rfl Tryd.underlying47 (by kernel_rfl) rfl rfl rfl (by omega) | exact rIdx1 (i := 0) rfl Tryd.underlying47 (by kernel_rfl) rfl rfl (by omega)) ?_
      first | refine WL_stw0 (u := .bool _) (vs := #[_]) (n := 1) hI rfl rfl rfl rfl rfl rfl (by kernel_rfl) rfl rfl rfl ?_ | refine WL_stw1 (u := .bool _) (vs := #[_]) (n := 1) hI rfl rfl rfl rfl rfl rfl (by kernel_rfl) rfl rfl rfl ?_ | refine WL_stw2 (u := .bool _) (vs := #[_]) (n := 1) hI rfl rfl rfl rfl rfl rfl (by kernel_rfl) rfl rfl rfl ?_ | refine WL_stw3 (u := .bool _) (vs := #[_]) (n := 1) hI rfl rfl rfl rfl rfl rfl (by kernel_rfl) rfl rfl rfl ?_ | refine WL_st0 (u := .bool _) hI rfl rfl rfl rfl rfl rfl (by kernel_rfl) rfl rfl rfl ?_ | refine WL_st1 (u := .bool _) hI rfl rfl rfl rfl rfl rfl (by kernel_rfl) rfl rfl rfl ?_ | refine WL_st2 (u := .bool _) hI rfl rfl rfl rfl rfl rfl (by kernel_rfl) rfl rfl rfl ?_ | refine WL_st3 (u := .bool _) hI rfl rfl rfl rfl rfl rfl (by kernel_rfl) rfl rfl rfl ?_
      clear hI; intro w hI
      refine WL_val rfl rfl rfl (by first | exact rIdx0 (i := 3) rfl Tryd.underlying47 (by kernel_rfl) rfl rfl rfl (by omega) | exact rIdx1 (i := 3) rfl Tryd.underlying47 (by kernel_rfl) rfl rfl (by omega)) ?_
      first | refine WL_stw0 (u := .bool _) (vs := #[_]) (n := 1) hI rfl rfl rfl rfl rfl rfl (by kernel_rfl) rfl rfl rfl ?_ | refine WL_stw1 (u := .bool _) (vs := #[_]) (n := 1) hI rfl rfl rfl rfl rfl rfl (by kernel_rfl) rfl rfl rfl ?_ | refine WL_stw2 (u := .bool _) (vs := #[_]) (n := 1) hI rfl rfl rfl rfl rfl rfl (by kernel_rfl) rfl rfl rfl ?_ | refine WL_stw3 (u := .bool _) (vs := #[_]) (n := 1) hI rfl rfl rfl rfl rfl rfl (by kernel_rfl) rfl rfl rfl ?_ | refine WL_st0 (u := .bool _) hI rfl rfl rfl rfl rfl rfl (by kernel_rfl) rfl rfl rfl ?_ | refine WL_st1 (u := .bool _) hI rfl rfl rfl rfl rfl rfl (by kernel_rfl) rfl rfl rfl ?_ | refine WL_st2 (u := .bool _) hI rfl rfl rfl rfl rfl rfl (by kernel_rfl) rfl rfl rfl ?_ | refine WL_st3 (u := .bool _) hI rfl rfl rfl rfl rfl rfl (by kernel_rfl) rfl rfl rfl ?_
      clear hI; intro w hI
      refine WL_nil ?_
      rw [boolC_set, boolC_set] at hI
      refine W_seq ?_
      refine W_draw (by kernel_rfl) ?_
      refine WA_T (fun _ => True) [] ?_
      refine WT_take 1 rfl rfl (by kernel_rfl) trivial rfl (fun W _ => (by first | exact rMoveS rfl rfl | exact rMove rfl)) ?_
      refine WT_true ?_
      refine WA_inv (T := [14, 15, 16, 17]) hI.drew ?_
      intro Sx hSx hXS
      replace hI := hI.drew
      refine WT_take 0 rfl rfl (by kernel_rfl) (hXS _ hI) rfl (fun W hW => have hI := hSx W hW; (by first | exact rMoveS rfl rfl | exact rMove rfl)) ?_
      refine WT_take 2 rfl rfl (by kernel_rfl) (hXS _ hI) rfl (fun W hW => have hI := hSx W hW; (by first | exact rFldN (off := 2) rfl (by kernel_rfl) rfl | exact rFld (off := 2) rfl (by kernel_rfl) rfl)) ?_
      refine WT_take 3 rfl rfl (by kernel_rfl) (hXS _ hI) rfl (fun W hW => have hI := hSx W hW; (by first | exact rLd (v := .slice _ _ _) rfl (by kernel_rfl) rfl (by first | exact hI.c0 rfl | exact hI.c1 rfl | exact hI.c2 rfl | exact hI.c3 rfl | exact hI.c4 rfl) | exact rLd rfl (by kernel_rfl) rfl (by first | exact hI.c0 rfl | exact hI.c1 rfl | exact hI.c2 rfl | exact hI.c3 rfl | exact hI.c4 rfl))) ?_
      refine WT_take 4 rfl rfl (by kernel_rfl) (hXS _ hI) rfl (fun W hW => have hI := hSx W hW; (by first | exact rMoveS rfl rfl | exact rMove rfl)) ?_
      refine WT_take 6 rfl rfl (by kernel_rfl) (hXS _ hI) rfl (fun W hW => have hI := hSx W hW; (by first | exact rFldN (off := 2) rfl (by kernel_rfl) rfl | exact rFld (off := 2) rfl (by kernel_rfl) rfl)) ?_
      refine WT_take 7 rfl rfl (by kernel_rfl) (hXS _ hI) rfl (fun W hW => have hI := hSx W hW; (by first | exact rLd (v := .slice _ _ _) rfl (by kernel_rfl) rfl (by first | exact hI.c0 rfl | exact hI.c1 rfl | exact hI.c2 rfl | exact hI.c3 rfl | exact hI.c4 rfl) | exact rLd rfl (by kernel_rfl) rfl (by first | exact hI.c0 rfl | exact hI.c1 rfl | exact hI.c2 rfl | exact hI.c3 rfl | exact hI.c4 rfl))) ?_
      refine WT_take 8 rfl rfl (by kernel_rfl) (hXS _ hI) rfl (fun W hW => have hI := hSx W hW; (by first | exact rMoveS rfl rfl | exact rMove rfl)) ?_
      refine WT_take 9 rfl rfl (by kernel_rfl) (hXS _ hI) rfl (fun W hW => have hI := hSx W hW; (by first | exact rFldN (off := 2) rfl (by kernel_rfl) rfl | exact rFld (off := 2) rfl (by kernel_rfl) rfl)) ?_
      refine WT_take 10 rfl rfl (by kernel_rfl) (hXS _ hI) rfl (fun W hW => have hI := hSx W hW; (by first | exact rLd (v := .slice _ _ _) rfl (by kernel_rfl) rfl (by first | exact hI.c0 rfl | exact hI.c1 rfl | exact hI.c2 rfl | exact hI.c3 rfl | exact hI.c4 rfl) | exact rLd rfl (by kernel_rfl) rfl (by first | exact hI.c0 rfl | exact hI.c1 rfl | exact hI.c2 rfl | exact hI.c3 rfl | exact hI.c4 rfl))) ?_
      -- STOP: several can come: [5, 11]
      refine WT_two 5 11 rfl rfl (by kernel_rfl) rfl rfl ?_ ?_
      · refine WL_call rfl rfl rfl (rCall (vs := [.slice _ _ _, .slice _ _ _]) rfl Tryd.func32 rfl rfl rfl) ?_
        refine (iback_any _ _ n (anewF t g) _ _ _ (knownF t g) _ _ hI.g3.2.2 hI.g0 (by omega)).mono ?_
        rintro e w1 ⟨rfl, hp⟩
        refine ⟨_, rfl, ?_⟩
        replace hI := hI.pure hp
        refine WL_nil ⟨hXS _ hI, ?_⟩
        refine WT_one 11 rfl (by kernel_rfl) rfl ?_
        refine WL_lit (vs := [_, _]) (qs := [(0, .slice _ _ _), (1, .slice _ _ _)]) [.slice none 0 0, .slice none 0 0] [0, 1] hI rfl rfl rfl rfl rfl rfl Tryd.underlying91 (fun _ => by kernel_rfl) ?_
        clear hI; rintro b117 w - - hI
        refine WL_nil ⟨hXS _ hI.d0, ?_⟩
        refine WT_one 12 rfl (by kernel_rfl) rfl ?_
        refine WL_call rfl rfl rfl (rCall (vs := [.slice _ _ _]) rfl Tryd.func23 rfl rfl rfl) ?_
        refine (itogether_any _ _ _ n [knownF t g, anewF t g] _ _ (graphs2 hI.g0 hI.g1 hI.g4.2.2) (fun k hk => hk) rfl (by omega) (by omega) (by omega)).mono ?_
        rintro e w1 ⟨rfl, hp⟩
        refine ⟨_, rfl, ?_⟩
        replace hI := hI.d0.fresh (G1.pu hp) (G1.ok (hp.toSq (by omega))) (fun k hk => hk.1)
        generalize w1.heap.size = hiE at hI
        generalize w.heap.size = loE at hI ⊢
        clear hp
        refine WL_nil ⟨hXS _ hI.d0, ?_⟩
        refine WT_one 13 rfl (by kernel_rfl) rfl ?_
        refine WL_call rfl rfl rfl (rCall (vs := [.slice _ _ _, .slice _ _ _]) rfl Tryd.func32 rfl rfl rfl) ?_
        refine (iback_any _ _ n (anewF t g) _ _ _ (everyF t g) _ _ hI.g4.2.2 hI.g0 (by omega)).mono ?_
        rintro e w1 ⟨rfl, hp⟩
        refine ⟨_, rfl, ?_⟩
        replace hI := hI.pure hp
        refine WL_nil ⟨hXS _ hI.d0, ?_⟩
        refine WT_A (by kernel_rfl) ?_
        clear hXS hSx
        refine WA_T (fun _ => True) [] ?_
        refine WT_take 14 rfl rfl (by kernel_rfl) trivial rfl (fun W _ => (by first | exact rIdx0 (i := 4) rfl Tryd.underlying47 (by kernel_rfl) rfl rfl rfl (by omega) | exact rIdx1 (i := 4) rfl Tryd.underlying47 (by kernel_rfl) rfl rfl (by omega))) ?_
        refine WT_one 15 rfl (by kernel_rfl) rfl ?_
        first | refine WL_stw0 (u := .bool _) (vs := #[_]) (n := 1) hI rfl rfl rfl rfl rfl rfl (by kernel_rfl) rfl rfl rfl ?_ | refine WL_stw1 (u := .bool _) (vs := #[_]) (n := 1) hI rfl rfl rfl rfl rfl rfl (by kernel_rfl) rfl rfl rfl ?_ | refine WL_stw2 (u := .bool _) (vs := #[_]) (n := 1) hI rfl rfl rfl rfl rfl rfl (by kernel_rfl) rfl rfl rfl ?_ | refine WL_stw3 (u := .bool _) (vs := #[_]) (n := 1) hI rfl rfl rfl rfl rfl rfl (by kernel_rfl) rfl rfl rfl ?_ | refine WL_stw4 (u := .bool _) (vs := #[_]) (n := 1) hI rfl rfl rfl rfl rfl rfl (by kernel_rfl) rfl rfl rfl ?_ | refine WL_st0 (u := .bool _) hI rfl rfl rfl rfl rfl rfl (by kernel_rfl) rfl rfl rfl ?_ | refine WL_st1 (u := .bool _) hI rfl rfl rfl rfl rfl rfl (by kernel_rfl) rfl rfl rfl ?_ | refine WL_st2 (u := .bool _) hI rfl rfl rfl rfl rfl rfl (by kernel_rfl) rfl rfl rfl ?_ | refine WL_st3 (u := .bool _) hI rfl rfl rfl rfl rfl rfl (by kernel_rfl) rfl rfl rfl ?_ | refine WL_st4 (u := .bool _) hI rfl rfl rfl rfl rfl rfl (by kernel_rfl) rfl rfl rfl ?_
        clear hI; intro w hI
        refine WL_nil ⟨trivial, ?_⟩
        refine WT_take 16 rfl rfl (by kernel_rfl) trivial rfl (fun W _ => (by first | exact rIdx0 (i := 5) rfl Tryd.underlying47 (by kernel_rfl) rfl rfl rfl (by omega) | exact rIdx1 (i := 5) rfl Tryd.underlying47 (by kernel_rfl) rfl rfl (by omega))) ?_
        refine WT_one 17 rfl (by kernel_rfl) rfl ?_
        first | refine WL_stw0 (u := .bool _) (vs := #[_]) (n := 1) hI rfl rfl rfl rfl rfl rfl (by kernel_rfl) rfl rfl rfl ?_ | refine WL_stw1 (u := .bool _) (vs := #[_]) (n := 1) hI rfl rfl rfl rfl rfl rfl (by kernel_rfl) rfl rfl rfl ?_ | refine WL_stw2 (u := .bool _) (vs := #[_]) (n := 1) hI rfl rfl rfl rfl rfl rfl (by kernel_rfl) rfl rfl rfl ?_ | refine WL_stw3 (u := .bool _) (vs := #[_]) (n := 1) hI rfl rfl rfl rfl rfl rfl (by kernel_rfl) rfl rfl rfl ?_ | refine WL_stw4 (u := .bool _) (vs := #[_]) (n := 1) hI rfl rfl rfl rfl rfl rfl (by kernel_rfl) rfl rfl rfl ?_ | refine WL_st0 (u := .bool _) hI rfl rfl rfl rfl rfl rfl (by kernel_rfl) rfl rfl rfl ?_ | refine WL_st1 (u := .bool _) hI rfl rfl rfl rfl rfl rfl (by kernel_rfl) rfl rfl rfl ?_ | refine WL_st2 (u := .bool _) hI rfl rfl rfl rfl rfl rfl (by kernel_rfl) rfl rfl rfl ?_ | refine WL_st3 (u := .bool _) hI rfl rfl rfl rfl rfl rfl (by kernel_rfl) rfl rfl rfl ?_ | refine WL_st4 (u := .bool _) hI rfl rfl rfl rfl rfl rfl (by kernel_rfl) rfl rfl rfl ?_
        clear hI; intro w hI
        refine WL_nil ⟨trivial, ?_⟩
        refine WT_end (by kernel_rfl) ?_
        rw [boolC_set, boolC_set] at hI
        refine W_seq ?_
        refine W_region ?_
        refine WL_val rfl rfl rfl (by first | exact rMoveS rfl rfl | exact rMove rfl) ?_
        refine WL_val rfl rfl rfl (by first | exact rAsgnS rfl rfl | exact rAsgn rfl) ?_
        refine WL_val rfl rfl rfl (by first | exact rAsgnN rfl rfl | exact rAsgnE rfl rfl | exact rAsgn rfl) ?_
        refine WL_nil ?_
        refine W_ret ?_
        refine ret2 2 3 (.inr rfl) rfl ⟨hI.pu, .inl ⟨hok, b22, (hI.own _ (List.mem_of_getElem? (i := 2) rfl) b22 rfl).resolve_left id, rfl, hI.g2⟩⟩
      · refine WL_lit (vs := [_, _]) (qs := [(0, .slice _ _ _), (1, .slice _ _ _)]) [.slice none 0 0, .slice none 0 0] [0, 1] hI rfl rfl rfl rfl rfl rfl Tryd.underlying91 (fun _ => by kernel_rfl) ?_
        clear hI; rintro b117 w - - hI
        refine WL_nil ⟨hXS _ hI.d0, ?_⟩
        refine WT_one 5 rfl (by kernel_rfl) rfl ?_
        refine WL_call rfl rfl rfl (rCall (vs := [.slice _ _ _, .slice _ _ _]) rfl Tryd.func32 rfl rfl rfl) ?_
        refine (iback_any _ _ n (anewF t g) _ _ _ (knownF t g) _ _ hI.g4.2.2 hI.g1 (by omega)).mono ?_
        rintro e w1 ⟨rfl, hp⟩
        refine ⟨_, rfl, ?_⟩
        replace hI := hI.pure hp
        refine WL_nil ⟨hXS _ hI.d0, ?_⟩
        refine WT_one 12 rfl (by kernel_rfl) rfl ?_
        refine WL_call rfl rfl rfl (rCall (vs := [.slice _ _ _]) rfl Tryd.func23 rfl rfl rfl) ?_
        refine (itogether_any _ _ _ n [knownF t g, anewF t g] _ _ (graphs2 hI.g0 hI.g1 hI.g4.2.2) (fun k hk => hk) rfl (by omega) (by omega) (by omega)).mono ?_
        rintro e w1 ⟨rfl, hp⟩
        refine ⟨_, rfl, ?_⟩
        replace hI := hI.d0.fresh (G1.pu hp) (G1.ok (hp.toSq (by omega))) (fun k hk => hk.1)
        generalize w1.heap.size = hiE at hI
        generalize w.heap.size = loE at hI ⊢
        clear hp
        refine WL_nil ⟨hXS _ hI.d0, ?_⟩
        refine WT_one 13 rfl (by kernel_rfl) rfl ?_
        refine WL_call rfl rfl rfl (rCall (vs := [.slice _ _ _, .slice _ _ _]) rfl Tryd.func32 rfl rfl rfl) ?_
        refine (iback_any _ _ n (anewF t g) _ _ _ (everyF t g) _ _ hI.g4.2.2 hI.g0 (by omega)).mono ?_
        rintro e w1 ⟨rfl, hp⟩
        refine ⟨_, rfl, ?_⟩
        replace hI := hI.pure hp
        refine WL_nil ⟨hXS _ hI.d0, ?_⟩
        refine WT_A (by kernel_rfl) ?_
        clear hXS hSx
        refine WA_T (fun _ => True) [] ?_
        refine WT_take 14 rfl rfl (by kernel_rfl) trivial rfl (fun W _ => (by first | exact rIdx0 (i := 4) rfl Tryd.underlying47 (by kernel_rfl) rfl rfl rfl (by omega) | exact rIdx1 (i := 4) rfl Tryd.underlying47 (by kernel_rfl) rfl rfl (by omega))) ?_
        refine WT_one 15 rfl (by kernel_rfl) rfl ?_
        first | refine WL_stw0 (u := .bool _) (vs := #[_]) (n := 1) hI rfl rfl rfl rfl rfl rfl (by kernel_rfl) rfl rfl rfl ?_ | refine WL_stw1 (u := .bool _) (vs := #[_]) (n := 1) hI rfl rfl rfl rfl rfl rfl (by kernel_rfl) rfl rfl rfl ?_ | refine WL_stw2 (u := .bool _) (vs := #[_]) (n := 1) hI rfl rfl rfl rfl rfl rfl (by kernel_rfl) rfl rfl rfl ?_ | refine WL_stw3 (u := .bool _) (vs := #[_]) (n := 1) hI rfl rfl rfl rfl rfl rfl (by kernel_rfl) rfl rfl rfl ?_ | refine WL_stw4 (u := .bool _) (vs := #[_]) (n := 1) hI rfl rfl rfl rfl rfl rfl (by kernel_rfl) rfl rfl rfl ?_ | refine WL_st0 (u := .bool _) hI rfl rfl rfl rfl rfl rfl (by kernel_rfl) rfl rfl rfl ?_ | refine WL_st1 (u := .bool _) hI rfl rfl rfl rfl rfl rfl (by kernel_rfl) rfl rfl rfl ?_ | refine WL_st2 (u := .bool _) hI rfl rfl rfl rfl rfl rfl (by kernel_rfl) rfl rfl rfl ?_ | refine WL_st3 (u := .bool _) hI rfl rfl rfl rfl rfl rfl (by kernel_rfl) rfl rfl rfl ?_ | refine WL_st4 (u := .bool _) hI rfl rfl rfl rfl rfl rfl (by kernel_rfl) rfl rfl rfl ?_
        clear hI; intro w hI
        refine WL_nil ⟨trivial, ?_⟩
        refine WT_take 16 rfl rfl (by kernel_rfl) trivial rfl (fun W _ => (by first | exact rIdx0 (i := 5) rfl Tryd.underlying47 (by kernel_rfl) rfl rfl rfl (by omega) | exact rIdx1 (i := 5) rfl Tryd.underlying47 (by kernel_rfl) rfl rfl (by omega))) ?_
        refine WT_one 17 rfl (by kernel_rfl) rfl ?_
        first | refine WL_stw0 (u := .bool _) (vs := #[_]) (n := 1) hI rfl rfl rfl rfl rfl rfl (by kernel_rfl) rfl rfl rfl ?_ | refine WL_stw1 (u := .bool _) (vs := #[_]) (n := 1) hI rfl rfl rfl rfl rfl rfl (by kernel_rfl) rfl rfl rfl ?_ | refine WL_stw2 (u := .bool _) (vs := #[_]) (n := 1) hI rfl rfl rfl rfl rfl rfl (by kernel_rfl) rfl rfl rfl ?_ | refine WL_stw3 (u := .bool _) (vs := #[_]) (n := 1) hI rfl rfl rfl rfl rfl rfl (by kernel_rfl) rfl rfl rfl ?_ | refine WL_stw4 (u := .bool _) (vs := #[_]) (n := 1) hI rfl rfl rfl rfl rfl rfl (by kernel_rfl) rfl rfl rfl ?_ | refine WL_st0 (u := .bool _) hI rfl rfl rfl rfl rfl rfl (by kernel_rfl) rfl rfl rfl ?_ | refine WL_st1 (u := .bool _) hI rfl rfl rfl rfl rfl rfl (by kernel_rfl) rfl rfl rfl ?_ | refine WL_st2 (u := .bool _) hI rfl rfl rfl rfl rfl rfl (by kernel_rfl) rfl rfl rfl ?_ | refine WL_st3 (u := .bool _) hI rfl rfl rfl rfl rfl rfl (by kernel_rfl) rfl rfl rfl ?_ | refine WL_st4 (u := .bool _) hI rfl rfl rfl rfl rfl rfl (by kernel_rfl) rfl rfl rfl ?_
        clear hI; intro w hI
        refine WL_nil ⟨trivial, ?_⟩
        refine WT_end (by kernel_rfl) ?_
        rw [boolC_set, boolC_set] at hI
        refine W_seq ?_
        refine W_region ?_
        refine WL_val rfl rfl rfl (by first | exact rMoveS rfl rfl | exact rMove rfl) ?_
        refine WL_val rfl rfl rfl (by first | exact rAsgnS rfl rfl | exact rAsgn rfl) ?_
        refine WL_val rfl rfl rfl (by first | exact rAsgnN rfl rfl | exact rAsgnE rfl rfl | exact rAsgn rfl) ?_
        refine WL_nil ?_
        refine W_ret ?_
        refine ret2 2 3 (.inr rfl) rfl ⟨hI.pu, .inl ⟨hok, b22, (hI.own _ (List.mem_of_getElem? (i := 2) rfl) b22 rfl).resolve_left id, rfl, hI.g2⟩⟩
  · refine ⟨_, rfl, ?_⟩
    replace hI := hI.pure hp1
    refine WL_val rfl rfl rfl (by first | exact rMoveT rfl rfl | exact rMove rfl) ?_
    refine WL_val rfl rfl rfl (rExtr rfl rfl rfl) ?_
    refine WL_val rfl rfl rfl (rExtr rfl rfl rfl) ?_
    refine WL_alloc (u := .agg #[.slice none 0 0, .slice none 0 0, .slice none 0 0]) (vs := #[.slice none 0 0, .slice none 0 0, .slice none 0 0]) hI rfl rfl rfl rfl (by kernel_rfl) rfl ?_
    clear hI; rintro b4 w - - hI
    first | refine WL_stw0 (u := .agg _) (vs := #[_, _, _]) (n := 3) hI rfl rfl rfl rfl rfl rfl (by kernel_rfl) rfl rfl rfl ?_ | refine WL_stw1 (u := .agg _) (vs := #[_, _, _]) (n := 3) hI rfl rfl rfl rfl rfl rfl (by kernel_rfl) rfl rfl rfl ?_ | refine WL_stw2 (u := .agg _) (vs := #[_, _, _]) (n := 3) hI rfl rfl rfl rfl rfl rfl (by kernel_rfl) rfl rfl rfl ?_
    clear hI; intro w hI
    refine WL_val rfl rfl rfl (by first | exact rAsgnN rfl rfl | exact rAsgnE rfl rfl | exact rAsgn rfl) ?_
    refine WL_nil ?_
    refine W_seq ?_
    refine W_seq ?_
    refine W_region ?_
    refine WL_val rfl rfl rfl (by first | exact rMoveN rfl rfl | exact rMoveE rfl rfl | exact rMove rfl) ?_
    refine WL_val rfl rfl rfl (by first | exact rIfaceNe rfl Tryd.underlying37 rfl rfl | exact rNilNe rfl Tryd.underlying37 rfl) ?_
    refine WL_nil ?_
    refine W_cond true rfl ?_
    refine W_seq ?_
    refine W_region ?_
    refine WL_val rfl rfl rfl (by first | exact rMoveN rfl rfl | exact rMoveE rfl rfl | exact rMove rfl) ?_
    refine WL_val rfl rfl rfl (by first | exact rAsgnS rfl rfl | exact rAsgn rfl) ?_
    refine WL_val rfl rfl rfl (by first | exact rAsgnN rfl rfl | exact rAsgnE rfl rfl | exact rAsgn rfl) ?_
    refine WL_nil ?_
    refine W_ret ?_
    exact ret2 2 3 (.inr rfl) rfl ⟨hI.pu, .inr ⟨hno, _, ⟨_, rfl⟩, rfl⟩⟩
end Go.Proofs.YtlnjmkldpicpdaaDoor
