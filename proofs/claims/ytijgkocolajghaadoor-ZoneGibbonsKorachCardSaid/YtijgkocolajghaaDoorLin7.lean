/- linear: the search's memory. -/
import Derived.Test.YtijgkocolajghaaDoorLin6
import Derived.Test.YtijgkocolajghaaDoorSrch4
namespace Go.Proofs.YtijgkocolajghaaDoor
open Go.RowKit
set_option linter.unusedVariables false
set_option linter.unusedSimpArgs false
/-- The cells of a search. -/
def srcC (o : Int) (A : Option Addr) (n c bud f db eb : Nat) (L : Loc) (sts : Nat → List Int) (A' : Option Addr) (m c' : Nat) : Array Value :=
  #[.int .i64 o, .slice A n c, .int .i64 (bud : Int), .func (.func f) #[] #[], .slice (some ⟨db, 0, none⟩) n n, .slice A' m c',
    .slice (L 0).1 (sts 0).length (L 0).2, .slice (L 1).1 (sts 1).length (L 1).2, .slice (L 2).1 (sts 2).length (L 2).2, .slice (L 3).1 (sts 3).length (L 3).2,
    .slice (L 4).1 (sts 4).length (L 4).2, .slice (L 5).1 (sts 5).length (L 5).2, .slice (L 6).1 (sts 6).length (L 6).2, .slice (L 7).1 (sts 7).length (L 7).2, .map (some eb)]
theorem lt8 {k : Nat} (h : k < 8) : k = 0 ∨ k = 1 ∨ k = 2 ∨ k = 3 ∨ k = 4 ∨ k = 5 ∨ k = 6 ∨ k = 7 := by omega
section
variable {o : Int} {A : Option Addr} {n c bud f db eb : Nat} {L : Loc} {sts : Nat → List Int} {A' : Option Addr} {m c' : Nat}
theorem srcC_st {k : Nat} (hk : k < 8) : (srcC o A n c bud f db eb L sts A' m c')[6 + k]? = some (.slice (L k).1 (sts k).length (L k).2) := by
  rcases lt8 hk with rfl | rfl | rfl | rfl | rfl | rfl | rfl | rfl <;> rfl
theorem srcC_stL {k : Nat} {u : Value} (hu : (stL L sts)[k]? = some u) : (srcC o A n c bud f db eb L sts A' m c')[6 + k]? = some u := by
  have hk : k < 8 := by have := (List.getElem?_eq_some_iff.1 hu).1; simpa [stL] using this
  rw [srcC_st hk]
  have := stL_get (L := L) (sts := sts) hk
  simp only [List.getElem?_toArray] at this
  rw [this] at hu
  exact hu
theorem srcC_set {k : Nat} (hk : k < 8) (A1 : Option Addr) (c1 : Nat) (st : List Int) : (srcC o A n c bud f db eb L sts A' m c').setIfInBounds (6 + k) (.slice A1 st.length c1) = srcC o A n c bud f db eb (updL L k A1 c1) (stSet sts k st) A' m c' := by
  rcases lt8 hk with rfl | rfl | rfl | rfl | rfl | rfl | rfl | rfl <;> rfl
end
theorem updL_back (L : Loc) (k : Nat) (A1 : Option Addr) (c1 : Nat) : updL (updL L k A1 c1) k (L k).1 (L k).2 = L := by
  funext j
  unfold updL
  by_cases h : j = k
  · subst h; simp
  · simp [h]
theorem stSet_back (sts : Nat → List Int) (k : Nat) (st : List Int) : stSet (stSet sts k st) k (sts k) = sts := by
  funext j
  unfold stSet
  by_cases h : j = k
  · subst h; simp
  · simp [h]
theorem dnSet_back {dn : Nat → Bool} {i : Nat} (h : dn i = false) : dnSet (dnSet dn i true) i false = dn := by
  funext j
  unfold dnSet
  by_cases hj : j = i
  · subst hj; simp [h]
  · simp [hj]
/-- The parts of a search. -/
def prt (sb : Nat) (o : Int) (A : Option Addr) (n c bud f db eb : Nat) (L : Loc) (s : SSt) (A' : Option Addr) (c' : Nat) : List Ent :=
  [B sb 64 (srcC o A n c bud f db eb L s.sts A' s.ord.length c'), B db 4 (boolC n s.dn), StE A' c' s.ord, SetE eb s.ent]
section
variable {l0 l H : List Ent} {w0 w : World} {S : Nat → Prop} {size n : Nat} {v : Value} {xs : List Value}
theorem Rd.now (hI : Inv (DL l0) w0 w H) (h : Rd w0 (fun b => ¬ DL l0 b) size v n xs) (hs : 0 < size) : Rd w (fun b => ¬ DL H b) size v n xs := by
  obtain ⟨A, c, hv, h1, h2, h3, h4⟩ := h
  refine ⟨A, c, hv, h1, h2, h3, fun hn => ?_⟩
  obtain ⟨b, o, e, hb, hcell⟩ := h4 hn
  have hlen : 0 < xs.length := by rw [h3]; exact Nat.mul_pos hn hs
  have hlt := World.block_lt_of_cell? w0 _ (hcell 0 _ (List.getElem?_eq_getElem hlen))
  refine ⟨b, o, e, ?_, fun j u hu => hI.old (hcell j u hu) hb⟩
  rintro ⟨x, hx, hxb⟩
  rcases hI.own x hx b hxb with h5 | h5
  · exact hb h5
  · have hlt : b < w0.heap.size := hlt
    omega
theorem DL.mono (h : ∀ e ∈ l, e ∈ H) {b : Nat} (hb : ¬ DL H b) : ¬ DL l b := fun ⟨e, he, hk⟩ => hb ⟨e, h e he, hk⟩
theorem StE.rd {A : Option Addr} {c : Nat} {st : List Int} (hI : Inv S w0 w (StE A c st :: l)) : Rd w (fun b => ¬ DL l b) 1 (.slice A st.length c) st.length (i64s st) := by
  have hg : w.ownsRow 0 3 1 (.slice A st.length c) st.length (i64s st) := hI.g0
  refine Rd.of_own hg fun k hk _ => ?_
  rintro ⟨e, he, hke⟩
  rw [ownBlock_slice] at hk
  exact (List.pairwise_cons.1 hI.apart).1 e he k hk hke
theorem kn_now (hI : Inv (DL l0) w0 w H) (hk : KnOk w0) (h0 : ¬ DL l0 1) : KnOk w ∧ ¬ DL H 1 := by
  refine ⟨fun i hi => hI.old (hk i hi) h0, ?_⟩
  rintro ⟨x, hx, hxb⟩
  have hlt : 1 < w0.heap.size := World.block_lt_of_cell? w0 _ (hk 0 (by omega))
  rcases hI.own x hx _ hxb with h5 | h5
  · exact h0 h5
  · omega
def StOk (w : World) (l : List Ent) (L : Loc) (sts : Nat → List Int) : Prop := ∀ k, k < 8 → Rd w (fun b => ¬ DL l b) 1 (.slice (L k).1 (sts k).length (L k).2) (sts k).length (i64s (sts k))
theorem StOk.now {L : Loc} {sts : Nat → List Int} (h : StOk w0 l0 L sts) (hI : Inv (DL l0) w0 w H) : StOk w H L sts := fun k hk => Rd.now hI (h k hk) (by decide)
theorem StOk.mono {L : Loc} {sts : Nat → List Int} (h : StOk w H L sts) (hs : ∀ e ∈ l, e ∈ H) : StOk w l L sts := fun k hk => (h k hk).mono fun _ hb => DL.mono hs hb
theorem StOk.upd {L : Loc} {sts : Nat → List Int} {k : Nat} {A : Option Addr} {c : Nat} {st : List Int} (h : StOk w l L sts) (hs : Rd w (fun b => ¬ DL l b) 1 (.slice A st.length c) st.length (i64s st)) : StOk w l (updL L k A c) (stSet sts k st) := by
  intro j hj
  by_cases hjk : j = k
  · subst hjk
    have e1 : updL L j A c j = (A, c) := by simp [updL]
    have e2 : stSet sts j st j = st := by simp [stSet]
    rw [e1, e2]
    exact hs
  · have e1 : updL L k A c j = L j := by simp [updL, hjk]
    have e2 : stSet sts k st j = sts j := by simp [stSet, hjk]
    rw [e1, e2]
    exact h j hj
/-- A world in which a part's blocks are the same set. -/
theorem Inv.trans {l1 : List Ent} {w1 : World} (h : Inv (DL l0) w0 w1 l1) (h' : Inv (DL l1) w1 w l) : Inv (DL l0) w0 w l := by
  have h2 : Inv (DL l0) w0 w1 (l1 ++ []) := by rw [List.append_nil]; exact h
  have := h2.turnL h'
  rwa [List.append_nil] at this
end
end Go.Proofs.YtijgkocolajghaaDoor
