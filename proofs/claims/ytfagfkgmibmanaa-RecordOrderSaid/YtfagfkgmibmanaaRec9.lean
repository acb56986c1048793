/- testimonykeep: begins, pick. -/
import Derived.Test.YtfagfkgmibmanaaRec8
import Derived.Test.YtfagfkgmibmanaaSxA
namespace Go.Proofs.Ytfagfkgmibmanaa
open Go.RowKit
set_option linter.unusedVariables false
set_option linter.unusedSimpArgs false

def evI (e : Ev) : List Int := [e.proc, e.ty, e.key, e.kind, e.a, e.b, e.res]
theorem evI_inj {e f : Ev} : evI e = evI f ↔ e = f := by
  obtain ⟨a1, a2, a3, a4, a5, a6, a7⟩ := e
  obtain ⟨b1, b2, b3, b4, b5, b6, b7⟩ := f
  simp [evI]
/-- A slice of events. -/
def Evs (w : World) (D : Nat → Prop) (v : Value) (es : List Ev) : Prop := Rd w D 7 v es.length (evsV es)
theorem Evs.pure {w w' : World} {D : Nat → Prop} {v : Value} {l : List Ev} (h : Evs w D v l) (hp : Pure w w') : Evs w' D v l := Rd.pure h hp
theorem evsV_get : ∀ {es : List Ev} {k : Nat} {e : Ev} {j : Nat} {u : Value}, es[k]? = some e → (evL e)[j]? = some u → (evsV es)[k * 7 + j]? = some u
  | [], k, e, j, u, h, _ => by simp at h
  | f :: es, 0, e, j, u, h, hu => by
    simp at h
    subst h
    show (evL f ++ evsV es)[0 * 7 + j]? = some u
    rw [Nat.zero_mul, Nat.zero_add, List.getElem?_append_left (List.getElem?_eq_some_iff.1 hu).1]
    exact hu
  | f :: es, k + 1, e, j, u, h, hu => by
    show (evL f ++ evsV es)[(k + 1) * 7 + j]? = some u
    have hl : (evL f).length = 7 := rfl
    rw [List.getElem?_append_right (by omega), hl, show (k + 1) * 7 + j - 7 = k * 7 + j from by omega]
    exact evsV_get (es := es) (k := k) (e := e) (by simpa using h) hu
theorem Evs.get {w : World} {D : Nat → Prop} {A : Option Addr} {n c k : Nat} {es : List Ev} {e : Ev} (h : Evs w D (.slice A n c) es) (hk : es[k]? = some e) : ∃ g o, A = some ⟨g, o, none⟩ ∧ D g ∧ ∀ j u, (evL e)[j]? = some u → w.cell? ⟨g, o + k * 7 + j, none⟩ = some u := by
  have hlt := (List.getElem?_eq_some_iff.1 hk).1
  obtain ⟨A', c', hv, h1, h2, h3, h4⟩ := h
  injection hv with e1 e2 e3
  subst e1
  obtain ⟨b, o, hb, hD, hc⟩ := h4 (by omega)
  refine ⟨b, o, hb, hD, fun j u hu => ?_⟩
  rw [Nat.add_assoc]
  exact hc _ u (evsV_get hk hu)
theorem pre_cons_iff {a b : List Ev} {k : Nat} {x y : Ev} (hx : a[k]? = some x) (hy : b[k]? = some y) (h : a.take k = b.take k) : (a.take (k + 1) = b.take (k + 1)) ↔ x = y := by
  rw [take_snoc' hx, take_snoc' hy, h]
  simp

def begF (a b : List Ev) : Bool := decide (a <+: b)
theorem begF_true {a b : List Ev} (h : a.length ≤ b.length) (h2 : a.take a.length = b.take a.length) : begF a b = true := by
  rw [List.take_length] at h2
  exact decide_eq_true (List.prefix_iff_eq_take.2 h2)
theorem begF_false {a b : List Ev} {k : Nat} (hk : k < a.length) (h2 : a.take (k + 1) ≠ b.take (k + 1)) : begF a b = false := by
  refine decide_eq_false fun h => h2 ?_
  obtain ⟨r, rfl⟩ := h
  rw [List.take_append_of_le_length (by omega)]
set_option maxHeartbeats 1000000 in
theorem begins_any (A B : Option Addr) (n c m d : Nat) (a b : List Ev) (D D' : Nat → Prop) (w0 : World) (h : Evs w0 D (.slice A n c) a) (h' : Evs w0 D' (.slice B m d) b) (ha : a.length = n) (hb : b.length = m) (hn : n ≤ 1000000) :
    Calls Try.prog 7 #[.slice A n c, .slice B m d] w0 fun en w' => en = .returned (.bool (begF a b)) ∧ Pure w0 w' := by
  subst ha hb
  have hI := Inv.start (fun _ => False) w0
  refine calls_of_W (N := Try.f7.ntmps) Try.func7 rfl rfl rfl ?_
  refine W_seq ?_
  refine W_region ?_
  refine WL_val rfl rfl rfl (by first | exact rAsgnB rfl rfl | exact rAsgn rfl) ?_
  refine WL_nil ?_
  by_cases hlen : b.length < a.length
  · refine W_seq ?_
    refine W_seq ?_
    refine W_region ?_
    refine WL_val rfl rfl rfl (by first | exact rMoveS rfl rfl | exact rMove rfl) ?_
    refine WL_val rfl rfl rfl (rLen rfl Try.underlying22 rfl) ?_
    refine WL_val rfl rfl rfl (by first | exact rMoveS rfl rfl | exact rMove rfl) ?_
    refine WL_val rfl rfl rfl (rLen rfl Try.underlying22 rfl) ?_
    refine WL_val rfl rfl rfl (by first | exact rGtrT rfl rfl rfl (by omega) | exact rGtrF rfl rfl rfl (by omega) | exact rGtr rfl rfl rfl) ?_
    refine WL_nil ?_
    refine W_cond true rfl ?_
    refine W_seq ?_
    refine W_region ?_
    refine WL_val rfl rfl rfl (by first | exact rAsgnB rfl rfl | exact rAsgn rfl) ?_
    refine WL_nil ?_
    refine W_ret ?_
    refine ret1 4 (.inr rfl) rfl ⟨?_, hI.pu⟩
    have : begF a b = false := decide_eq_false fun h => by have := h.length_le; omega
    rw [this]
    rfl
  · refine W_seq ?_
    refine W_seq ?_
    refine W_region ?_
    refine WL_val rfl rfl rfl (by first | exact rMoveS rfl rfl | exact rMove rfl) ?_
    refine WL_val rfl rfl rfl (rLen rfl Try.underlying22 rfl) ?_
    refine WL_val rfl rfl rfl (by first | exact rMoveS rfl rfl | exact rMove rfl) ?_
    refine WL_val rfl rfl rfl (rLen rfl Try.underlying22 rfl) ?_
    refine WL_val rfl rfl rfl (by first | exact rGtrT rfl rfl rfl (by omega) | exact rGtrF rfl rfl rfl (by omega) | exact rGtr rfl rfl rfl) ?_
    refine WL_nil ?_
    refine W_cond false rfl ?_
    refine W_skip ?_
    refine W_seq ?_
    refine W_seq ?_
    refine W_region ?_
    refine WL_val rfl rfl rfl (by first | exact rAsgnI rfl rfl | exact rAsgn rfl) ?_
    refine WL_nil ?_
    refine W_block ?_
    refine W_loop (fun ρ w => ∃ k : Nat, k ≤ a.length ∧ Has ρ [(5, .int .i64 k), (0, .slice A a.length c), (1, .slice B b.length d)] ∧ a.take k = b.take k ∧ Inv (fun _ => False) w0 w []) (fun ρ _ => a.length - cnt (ρ 5))
      ⟨0, by omega, ⟨rfl, rfl, rfl, trivial⟩, by simp, hI⟩ ?_
    clear hI
    rintro ρ w ⟨k, hk, hH, hpre, hI⟩
    obtain ⟨σ, rfl⟩ := hH.open
    by_cases hka : k < a.length
    · obtain ⟨x, hx⟩ : ∃ x, a[k]? = some x := ⟨_, List.getElem?_eq_getElem hka⟩
      obtain ⟨y, hy⟩ : ∃ y, b[k]? = some y := ⟨_, List.getElem?_eq_getElem (by omega)⟩
      obtain ⟨g1, o1, rfl, _, q1⟩ := h.get hx
      obtain ⟨g2, o2, rfl, _, q2⟩ := h'.get hy
      refine W_seq ?_
      refine W_seq ?_
      refine W_region ?_
      refine WL_val rfl rfl rfl (by first | exact rMoveI rfl rfl | exact rMove rfl) ?_
      refine WL_val rfl rfl rfl (by first | exact rMoveS rfl rfl | exact rMove rfl) ?_
      refine WL_val rfl rfl rfl (rLen rfl Try.underlying22 rfl) ?_
      refine WL_val rfl rfl rfl (by first | exact rLssT rfl rfl rfl (by omega) | exact rLssF rfl rfl rfl (by omega) | exact rLss rfl rfl rfl) ?_
      refine WL_nil ?_
      refine W_cond true rfl ?_
      refine W_skip ?_
      refine W_seq ?_
      refine W_block ?_
      refine W_seq ?_
      refine W_draw (by kernel_rfl) ?_
      refine WA_inv (T := []) hI.drew ?_
      intro Sx hSx hXS
      replace hI := hI.drew
      refine WT_take 0 rfl rfl (by kernel_rfl) (hXS _ hI) rfl (fun W hW => have hI := hSx W hW; (by first | exact rMoveS rfl rfl | exact rMove rfl)) ?_
      refine WT_take 1 rfl rfl (by kernel_rfl) (hXS _ hI) rfl (fun W hW => have hI := hSx W hW; (by first | exact rMoveI rfl rfl | exact rMove rfl)) ?_
      refine WT_take 2 rfl rfl (by kernel_rfl) (hXS _ hI) rfl (fun W hW => have hI := hSx W hW; (rIdx (sz := 7) rfl Try.underlying22 (by kernel_rfl) rfl rfl (by omega))) ?_
      refine WT_take 3 rfl rfl (by kernel_rfl) (hXS _ hI) rfl (fun W hW => have hI := hSx W hW; (by first | exact rLdA (n := 7) rfl (by kernel_rfl) (by kernel_rfl) rfl (by rfl) (fun k u hk => hI.oldp (q1 k u hk)) | exact rLdA (n := 7) rfl (by kernel_rfl) (by kernel_rfl) rfl (by rfl) q1 | exact rLdA (n := 7) rfl (by kernel_rfl) (by kernel_rfl) rfl (by rfl) (fun k u hk => hI.oldp (q2 k u hk)) | exact rLdA (n := 7) rfl (by kernel_rfl) (by kernel_rfl) rfl (by rfl) q2)) ?_
      refine WT_take 4 rfl rfl (by kernel_rfl) (hXS _ hI) rfl (fun W hW => have hI := hSx W hW; (by first | exact rMoveS rfl rfl | exact rMove rfl)) ?_
      refine WT_take 5 rfl rfl (by kernel_rfl) (hXS _ hI) rfl (fun W hW => have hI := hSx W hW; (by first | exact rMoveI rfl rfl | exact rMove rfl)) ?_
      refine WT_take 6 rfl rfl (by kernel_rfl) (hXS _ hI) rfl (fun W hW => have hI := hSx W hW; (rIdx (sz := 7) rfl Try.underlying22 (by kernel_rfl) rfl rfl (by omega))) ?_
      refine WT_take 7 rfl rfl (by kernel_rfl) (hXS _ hI) rfl (fun W hW => have hI := hSx W hW; (by first | exact rLdA (n := 7) rfl (by kernel_rfl) (by kernel_rfl) rfl (by rfl) (fun k u hk => hI.oldp (q1 k u hk)) | exact rLdA (n := 7) rfl (by kernel_rfl) (by kernel_rfl) rfl (by rfl) q1 | exact rLdA (n := 7) rfl (by kernel_rfl) (by kernel_rfl) rfl (by rfl) (fun k u hk => hI.oldp (q2 k u hk)) | exact rLdA (n := 7) rfl (by kernel_rfl) (by kernel_rfl) rfl (by rfl) q2)) ?_
      refine WT_take 8 rfl rfl (by kernel_rfl) (hXS _ hI) rfl (fun W hW => have hI := hSx W hW; (rNeqS (n := 7) (la := evI x) (lb := evI y) rfl (by kernel_rfl) rfl rfl rfl rfl)) ?_
      refine WT_end (by kernel_rfl) ?_
      have hiff := pre_cons_iff hx hy hpre
      by_cases hxy : x = y
      · rw [decide_eq_true (evI_inj.2 hxy)]
        refine W_cond false rfl ?_
        refine W_skip ?_
        refine W_region ?_
        refine WL_val rfl rfl rfl (by first | exact rMoveI rfl rfl | exact rMove rfl) ?_
        refine WL_val rfl rfl rfl (by first | exact rInc rfl rfl rfl (by omega) | exact rAdd rfl rfl rfl (by omega) | exact rAddW rfl rfl rfl) ?_
        refine WL_val rfl rfl rfl (by first | exact rAsgnI rfl rfl | exact rAsgn rfl) ?_
        refine WL_nil ?_
        exact ⟨⟨k + 1, by omega, ⟨rfl, rfl, rfl, trivial⟩, hiff.2 hxy, hI⟩, by show a.length - ((k + 1 : Nat) : Int).toNat < a.length - (k : Int).toNat; omega⟩
      · rw [decide_eq_false (fun hh => hxy (evI_inj.1 hh))]
        refine W_cond true rfl ?_
        refine W_seq ?_
        refine W_region ?_
        refine WL_val rfl rfl rfl (by first | exact rAsgnB rfl rfl | exact rAsgn rfl) ?_
        refine WL_nil ?_
        refine W_ret ?_
        refine ret1 4 (.inr rfl) rfl ⟨?_, hI.pu⟩
        rw [begF_false hka (fun hh => hxy (hiff.1 hh))]
        rfl
    · obtain rfl : k = a.length := by omega
      refine W_seq ?_
      refine W_seq ?_
      refine W_region ?_
      refine WL_val rfl rfl rfl (by first | exact rMoveI rfl rfl | exact rMove rfl) ?_
      refine WL_val rfl rfl rfl (by first | exact rMoveS rfl rfl | exact rMove rfl) ?_
      refine WL_val rfl rfl rfl (rLen rfl Try.underlying22 rfl) ?_
      refine WL_val rfl rfl rfl (by first | exact rLssT rfl rfl rfl (by omega) | exact rLssF rfl rfl rfl (by omega) | exact rLss rfl rfl rfl) ?_
      refine WL_nil ?_
      refine W_cond false rfl ?_
      refine W_exit ?_
      refine W_seq ?_
      refine W_region ?_
      refine WL_val rfl rfl rfl (by first | exact rAsgnB rfl rfl | exact rAsgn rfl) ?_
      refine WL_nil ?_
      refine W_ret ?_
      refine ret1 4 (.inr rfl) rfl ⟨?_, hI.pu⟩
      rw [begF_true (by omega) hpre]
      rfl
theorem pick_any (a : Int) (n : Nat) (w0 : World) (hn : 0 < n) (hn2 : n < 1000000000) : Calls Try.prog 4 #[.int .i64 a, .int .i64 n] w0 fun en w' => ∃ k : Nat, k < n ∧ en = .returned (.int .i64 k) ∧ Pure w0 w' := by
  have hI := Inv.start (fun _ => False) w0
  refine calls_of_W (N := Try.f4.ntmps) Try.func4 rfl rfl rfl ?_
  refine W_seq ?_
  refine W_region ?_
  refine WL_val rfl rfl rfl (by first | exact rAsgnI rfl rfl | exact rAsgn rfl) ?_
  refine WL_nil ?_
  refine W_seq ?_
  refine W_region ?_
  refine WL_val rfl rfl rfl (by first | exact rMoveI rfl rfl | exact rMove rfl) ?_
  refine WL_val rfl rfl rfl (by first | exact rConv_u64s rfl Try.underlying3 Try.underlying38 rfl (by omega) | exact rConvW rfl Try.underlying3 Try.underlying38 rfl) ?_
  refine WL_val rfl rfl rfl (by first | exact rMoveI rfl rfl | exact rMove rfl) ?_
  refine WL_val rfl rfl rfl (by first | exact rConv_u64s rfl Try.underlying3 Try.underlying38 rfl (by omega) | exact rConvW rfl Try.underlying3 Try.underlying38 rfl) ?_
  refine WL_val rfl rfl rfl (rRemW rfl rfl rfl (by omega)) ?_
  refine WL_val rfl rfl rfl (by first | exact rConv_i64 rfl Try.underlying38 Try.underlying3 rfl (by omega) | exact rConvW rfl Try.underlying38 Try.underlying3 rfl) ?_
  refine WL_val rfl rfl rfl (by first | exact rAsgnI rfl rfl | exact rAsgn rfl) ?_
  refine WL_nil ?_
  refine W_ret ?_
  obtain ⟨u, hu⟩ : ∃ u : Nat, IntKind.u64.wrap a = (u : Int) := ⟨(IntKind.u64.wrap a).toNat, by
    have : 0 ≤ IntKind.u64.wrap a := by simp [IntKind.wrap, IntKind.signed, IntKind.bits]; omega
    omega⟩
  have hlt : u % n < n := Nat.mod_lt _ hn
  refine ret1 4 (.inr rfl) rfl ⟨u % n, hlt, ?_, hI.pu⟩
  show Ending.returned (.int .i64 (IntKind.i64.wrap ((IntKind.u64.wrap a).tmod (n : Int)))) = _
  rw [hu, ← Int.ofNat_tmod, wrap64_in (by omega) (by omega)]
end Go.Proofs.Ytfagfkgmibmanaa
