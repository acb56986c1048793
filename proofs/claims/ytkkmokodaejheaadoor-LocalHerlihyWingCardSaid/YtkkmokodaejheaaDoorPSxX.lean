/- Texts of the proof, merged: Srch3, Srch4, Lin7, Lin8, Lin9, Lin10, SxX. -/
import Derived.Test.YtkkmokodaejheaaDoorPSrch2
import Derived.Test.YtkkmokodaejheaaDoorPStr1
set_option linter.unusedVariables false
set_option linter.unusedSimpArgs false
set_option linter.unusedSectionVars false
namespace Go.Proofs.YtkkmokodaejheaaDoor
section
variable {o : Int} {l : List Op8} {ab : Op8 → Op8 → Bool}
theorem Aay {ord : List Int} (hn : ord.Nodup) {j : Nat} (hj : j < ord.length) (h0 : 0 ≤ ord[j]) : dnF ord j ord[j].toNat = false := by
 unfold dnF
 rw [Int.toNat_of_nonneg h0]
 simp only [List.contains_eq_mem, decide_eq_false_iff_not]
 intro hm
 obtain ⟨i, hi, he⟩ := List.mem_take_iff_getElem.1 hm
 have := (List.getElem_inj hn).1 he
 omega
theorem Lr {dn : Nat → Bool} {sts : Nat → List Int} {ord : List Int} (hA : Dw l) (hall : DI l dn = true) (hR : Reach o l Br dn sts ord) : GR o l ord := by
 refine ⟨fun j hj _ => ?_, fun i hi hr => ?_, ?_⟩
 ·obtain ⟨h0, h1⟩ := hR.rng ord[j] (List.getElem_mem hj)
  refine ⟨h0, h1, Aay hR.nodup hj h0, fun i hi hij => ?_⟩
  exact List.pairwise_iff_getElem.1 hR.ahead i j hi hj hij
 ·unfold DI at hall
  have := List.all_eq_true.1 hall i (List.mem_range.2 hi)
  simp [hr] at this
  rw [hR.dnE i] at this
  unfold dnF
  rw [List.take_of_length_le (Nat.le_refl _)]
  exact this
 ·exact Kj hA ord 0 _ _ sts hR.rng (fun k hk => by simp [Bn, hk]) hR.run
theorem Qz (hA : Dw l) (hab : ∀ k i, k < l.length → i < l.length → ab (oAt l k) (oAt l i) = true → Br (oAt l k) (oAt l i) = true) {order : List Int} (hO : Y3 l order order.length) (hall : ∀ i, i < l.length → 0 ≤ (oAt l i).ret → dnF order order.length i = true) :
  ∀ (m p : Nat) (g : MM) (sts : Nat → List Int), order.length - p = m → p ≤ order.length → (∀ k, k < 8 → (g k).getD (Bl o) = sts k) → Hz o l (order.drop p) p g = -1 → Wit o l ab ((order.drop p).map Int.toNat) (dnF order p) sts := by
 intro m
 induction m with
 | zero =>
  intro p g sts hm hp hg hr
  obtain rfl : p = order.length := by omega
  rw [List.drop_eq_nil_of_le (Nat.le_refl _)]
  show DI l _ = true
  unfold DI
  rw [List.all_eq_true]
  intro i hi
  have hi := List.mem_range.1 hi
  by_cases h0 : 0 ≤ (oAt l i).ret
  ·simp [h0, hall i hi h0]
  ·simp [h0]
 | succ m ih =>
  intro p g sts hm hp hg hr
  have hpl : p < order.length := by omega
  rw [List.drop_eq_getElem_cons hpl] at hr ⊢
  obtain ⟨h0, h1, h2, h3⟩ := hO p hpl hpl
  obtain ⟨i, hi⟩ : ∃ i : Nat, order[p] = (i : Int) := ⟨order[p].toNat, by omega⟩
  rw [hi, Int.toNat_natCast] at h2 h3
  have hil : i < l.length := by rw [hi] at h1; omega
  rw [hi] at hr
  rw [Hz, if_neg (by omega), Int.toNat_natCast] at hr
  have hk := hA.CY hil
  have e : (g (oAt l i).key.toNat).getD (Bl o) = sts (CY l i) := hg _ hk
  rw [e] at hr
  rw [List.map_cons, hi, Int.toNat_natCast]
  cases hs : BR o (sts (CY l i)) (oAt l i).kind (oAt l i).a (oAt l i).b with
  | none => rw [hs] at hr; simp only at hr; omega
  | some q =>
   obtain ⟨st', res⟩ := q
   rw [hs] at hr
   simp only at hr
   by_cases hbad : 0 ≤ (oAt l i).ret ∧ res ≠ (oAt l i).res
   ·rw [if_pos hbad] at hr; omega
   rw [if_neg hbad] at hr
   have hgo : goF o l sts i = some st' := by
    unfold goF
    rw [hs]
    simp only
    rw [if_neg]
    rintro ⟨g1, g2⟩
    have := hA.ret i hil
    exact hbad ⟨by omega, g2⟩
   have hnext : DC l ab (dnF order p) i = true := by
    unfold DC
    rw [h2]
    simp only [Bool.not_false, Bool.true_and, List.all_eq_true, List.mem_range]
    intro k hkl
    by_cases hki : k = i
    ·simp [hki]
    cases hdk : dnF order p k with
    | true => simp
    | false =>
     have : ab (oAt l k) (oAt l i) = false := by
      cases hb : ab (oAt l k) (oAt l i) with
      | false => rfl
      | true =>
       have hbf := hab k i hkl hil hb
       by_cases hr0 : 0 ≤ (oAt l k).ret
       ·have hin := hall k hkl hr0
        unfold dnF at hin
        rw [List.take_of_length_le (Nat.le_refl _)] at hin
        have hin : ((k : Nat) : Int) ∈ order := by simpa using hin
        obtain ⟨j, hj, hje⟩ := List.getElem_of_mem hin
        have hjp : p < j := by
         rcases Nat.lt_or_ge p j with h | h
         ·exact h
         ·exfalso
          rcases Nat.lt_or_ge j p with h' | h'
          ·unfold dnF at hdk
           have : ((k : Nat) : Int) ∈ order.take p := by
            rw [← hje]
            exact List.mem_take_iff_getElem.2 ⟨j, by omega, rfl⟩
           simp [this] at hdk
          ·obtain rfl : j = p := by omega
           rw [hi] at hje
           exact hki (by omega)
        obtain ⟨_, _, _, h4⟩ := hO j hj hj
        have := h4 p hpl hjp
        rw [hje, hi, Int.toNat_natCast, Int.toNat_natCast, hbf] at this
        cases this
       ·unfold Br at hbf
        simp [hr0] at hbf
     simp [this]
   refine ⟨hil, hnext, st', hgo, ?_⟩
   have ih' := ih (p + 1) (Jv g (oAt l i).key.toNat st') (BC sts (CY l i) st') (by omega) (by omega) (fun k hk8 => by
    unfold Jv BC CY
    split
    ·rfl
    ·exact hg k hk8) hr
   have ed : dnF order (p + 1) = BB (dnF order p) i true := by
    funext x
    rw [P8 hpl hi]
    rfl
   rw [ed] at ih'
   exact ih'
theorem IC (hA : Dw l) (hab : ∀ k i, k < l.length → i < l.length → ab (oAt l k) (oAt l i) = true → Br (oAt l k) (oAt l i) = true) {order : List Int} (h : GR o l order) : Wit o l ab (order.map Int.toNat) (fun _ => false) (Bn o).sts := by
 have h1 := Qz (o := o) (ab := ab) hA hab h.1 h.2.1 order.length 0 (fun _ => none) (Bn o).sts (by omega) (by omega) (fun k hk => by simp [Bn, hk]) (by simpa [UZ] using h.2.2)
 have e : dnF order 0 = fun _ => false := by funext x; simp [dnF]
 rw [e] at h1
 simpa using h1
theorem K3 (hA : Dw l) {bud : Nat} (h : (Be o l Br bud).1 = 1) : GR o l (Be o l Br bud).2.ord := by
 obtain ⟨h1, h2⟩ := KZ h
 exact Lr hA h1 h2
end
theorem O6 {p k : Int} {l : List Int} (h : Hu p k l = true) : ∀ x ∈ l, -1000000 ≤ x ∧ x ≤ 1000000 := by
 unfold Hu inB at h
 simp at h
 exact h.1.1
theorem Mh {o : Int} {l : List Op8} {bud : Int} (h : Bh o l bud) : Dw l := by
 refine ⟨h.key, fun i hi => ?_, fun i hi => ?_, fun i hi => ?_⟩
 ·have := O6 (h.2.2.2.2.1.2 i hi).1 (oAt l i).a (by simp)
  unfold Es; omega
 ·have := O6 (h.2.2.2.2.1.2 i hi).1 (oAt l i).b (by simp)
  unfold Es; omega
 ·obtain ⟨h1, _, h3⟩ := (h.2.2.2.2.1.2 i hi).2.2.1
  omega
section
variable {o : Int} {l : List Op8} {ab : Op8 → Op8 → Bool}
theorem Hl {rec : SSt → Int × SSt} : ∀ (r : List Nat) (s : SSt), (BA o l ab rec r s).1 = 2 → (BA o l ab rec r s).2.dn = s.dn ∧ (BA o l ab rec r s).2.sts = s.sts ∧ (BA o l ab rec r s).2.ord = s.ord
 | [], s, _ => ⟨rfl, rfl, rfl⟩
 | i :: r, s, h => by
  unfold BA at h ⊢
  split
  ·rename_i hx
   rw [hx] at h
   exact Hl r s h
  ·rename_i hx
   rw [hx] at h
   simp only at h
   split
   ·rename_i hg
    rw [hg] at h
    exact Hl r s h
   ·rename_i st' hg
    rw [hg] at h
    simp only at h
    by_cases h2 : (rec (Cv l s i st')).1 = 2
    ·rw [if_pos h2] at h ⊢
     exact Hl r ⟨s.dn, s.sts, s.ord, (rec (Cv l s i st')).2.ent⟩ h
    ·rw [if_neg h2] at h
     exact absurd h h2
theorem Rn {bud : Nat} : ∀ (f : Nat) (s : SSt), (AP o l ab bud f s).1 = 2 → (AP o l ab bud f s).2.dn = s.dn ∧ (AP o l ab bud f s).2.sts = s.sts ∧ (AP o l ab bud f s).2.ord = s.ord
 | 0, s, _ => ⟨rfl, rfl, rfl⟩
 | f + 1, s, h => by
  cases ha : DI l s.dn with
  | true => rw [Ga ha]; exact ⟨rfl, rfl, rfl⟩
  | false =>
   by_cases hk : Fe l.length s.dn s.sts ∈ s.ent
   ·rw [F9 ha hk]; exact ⟨rfl, rfl, rfl⟩
   ·by_cases hb : s.ent.length = bud
    ·rw [Fw ha hk hb]; exact ⟨rfl, rfl, rfl⟩
    ·rw [Hm ha hk hb] at h ⊢
     exact Hl _ _ h
theorem WM {f bud : Nat} {s : SSt} (h : (AP o l ab bud f s).1 = 2) : (AP o l ab bud f s).2 = ⟨s.dn, s.sts, s.ord, (AP o l ab bud f s).2.ent⟩ := by
 obtain ⟨h1, h2, h3⟩ := Rn f s h
 generalize (AP o l ab bud f s).2 = t at h1 h2 h3 ⊢
 cases t
 subst h1 h2 h3
 rfl
end
structure Ab7 (l l' : List Op8) : Prop where
 len : l'.length = l.length
 same : ∀ i, i < l.length → (oAt l' i).key = (oAt l i).key ∧ (oAt l' i).kind = (oAt l i).kind ∧ (oAt l' i).a = (oAt l i).a ∧ (oAt l' i).b = (oAt l i).b ∧ (oAt l' i).res = (oAt l i).res
 sign : ∀ i, i < l.length → (0 ≤ (oAt l' i).ret ↔ 0 ≤ (oAt l i).ret)
 call : ∀ i, i < l.length → (oAt l' i).call = 3 * (oAt l i).call
 ret : ∀ i, i < l.length → 0 ≤ (oAt l i).ret → 3 * (oAt l i).ret ≤ (oAt l' i).ret
theorem Bh.bud {o : Int} {l : List Op8} {b b' : Int} (h : Bh o l b) (h0 : 0 ≤ b') (h1 : b' ≤ 1000000) : Bh o l b' := ⟨h.1, h.2.1, h0, h1, h.2.2.2.2.1, h.2.2.2.2.2⟩
section
variable {o : Int} {l : List Op8} {ab : Op8 → Op8 → Bool}
theorem Ja {rec : SSt → Int × SSt} {m : Nat} (hrec : ∀ s, (rec s).2.ord.length ≤ s.ord.length + m) : ∀ (r : List Nat) (s : SSt), (BA o l ab rec r s).2.ord.length ≤ s.ord.length + (m + 1)
 | [], s => Nat.le_add_right _ _
 | i :: r, s => by
  unfold BA
  split
  ·exact Ja hrec r s
  ·split
   ·exact Ja hrec r s
   ·split
    ·exact Ja hrec r _
    ·rename_i st' _ _
     have := hrec (Cv l s i st')
     simp only [Cv, List.length_append, List.length_singleton] at this ⊢
     omega
theorem NG {bud : Nat} : ∀ (f : Nat) (s : SSt), (AP o l ab bud f s).2.ord.length ≤ s.ord.length + f
 | 0, s => Nat.le_refl _
 | f + 1, s => by
  unfold AP
  split
  ·exact Nat.le_add_right _ _
  ·split
   ·exact Nat.le_add_right _ _
   ·split
    ·exact Nat.le_add_right _ _
    ·exact Ja (NG f) _ (FE l s)
end
end Go.Proofs.YtkkmokodaejheaaDoor
namespace Go.Proofs.YtkkmokodaejheaaDoor
open Go.RowKit
def Ew (o : Int) (A : Option Addr) (n c bud f db eb : Nat) (L : Loc) (sts : Nat → List Int) (A' : Option Addr) (m c' : Nat) : Array Value :=
 #[.int .i64 o, .slice A n c, .int .i64 (bud : Int), .func (.func f) #[] #[], .slice (some ⟨db, 0, none⟩) n n, .slice A' m c',
  .slice (L 0).1 (sts 0).length (L 0).2, .slice (L 1).1 (sts 1).length (L 1).2, .slice (L 2).1 (sts 2).length (L 2).2, .slice (L 3).1 (sts 3).length (L 3).2,
  .slice (L 4).1 (sts 4).length (L 4).2, .slice (L 5).1 (sts 5).length (L 5).2, .slice (L 6).1 (sts 6).length (L 6).2, .slice (L 7).1 (sts 7).length (L 7).2, .map (some eb)]
theorem lt8 {k : Nat} (h : k < 8) : k = 0 ∨ k = 1 ∨ k = 2 ∨ k = 3 ∨ k = 4 ∨ k = 5 ∨ k = 6 ∨ k = 7 := by omega
section
variable {o : Int} {A : Option Addr} {n c bud f db eb : Nat} {L : Loc} {sts : Nat → List Int} {A' : Option Addr} {m c' : Nat}
theorem RL {k : Nat} (hk : k < 8) : (Ew o A n c bud f db eb L sts A' m c')[6 + k]? = some (.slice (L k).1 (sts k).length (L k).2) := by
 rcases lt8 hk with rfl | rfl | rfl | rfl | rfl | rfl | rfl | rfl <;> rfl
theorem UF {k : Nat} {u : Value} (hu : (stL L sts)[k]? = some u) : (Ew o A n c bud f db eb L sts A' m c')[6 + k]? = some u := by
 have hk : k < 8 := by have := (List.getElem?_eq_some_iff.1 hu).1; simpa [stL] using this
 rw [RL hk]
 have := RJ (L := L) (sts := sts) hk
 simp only [List.getElem?_toArray] at this
 rw [this] at hu
 exact hu
theorem Lh {k : Nat} (hk : k < 8) (A1 : Option Addr) (c1 : Nat) (st : List Int) : (Ew o A n c bud f db eb L sts A' m c').setIfInBounds (6 + k) (.slice A1 st.length c1) = Ew o A n c bud f db eb (DF L k A1 c1) (BC sts k st) A' m c' := by
 rcases lt8 hk with rfl | rfl | rfl | rfl | rfl | rfl | rfl | rfl <;> rfl
end
theorem Sy (L : Loc) (k : Nat) (A1 : Option Addr) (c1 : Nat) : DF (DF L k A1 c1) k (L k).1 (L k).2 = L := by
 funext j
 unfold DF
 by_cases h : j = k
 ·subst h; simp
 ·simp [h]
theorem QD (sts : Nat → List Int) (k : Nat) (st : List Int) : BC (BC sts k st) k (sts k) = sts := by
 funext j
 unfold BC
 by_cases h : j = k
 ·subst h; simp
 ·simp [h]
theorem Rp {dn : Nat → Bool} {i : Nat} (h : dn i = false) : BB (BB dn i true) i false = dn := by
 funext j
 unfold BB
 by_cases hj : j = i
 ·subst hj; simp [h]
 ·simp [hj]
def prt (sb : Nat) (o : Int) (A : Option Addr) (n c bud f db eb : Nat) (L : Loc) (s : SSt) (A' : Option Addr) (c' : Nat) : List Ent :=
 [B sb 71 (Ew o A n c bud f db eb L s.sts A' s.ord.length c'), B db 4 (BJ n s.dn), StE A' c' s.ord, Fb eb s.ent]
section
variable {l0 l H : List Ent} {w0 w : World} {S : Nat → Prop} {size n : Nat} {v : Value} {xs : List Value}
theorem Rd.now (hI : Inv (DL l0) w0 w H) (h : Rd w0 (fun b => ¬ DL l0 b) size v n xs) (hs : 0 < size) : Rd w (fun b => ¬ DL H b) size v n xs := by
 obtain ⟨A, c, hv, h1, h2, h3, h4⟩ := h
 refine ⟨A, c, hv, h1, h2, h3, fun hn => ?_⟩
 obtain ⟨b, o, e, hb, hcell⟩ := h4 hn
 have hlen : 0 < xs.length := by rw [h3]; exact Nat.mul_pos hn hs
 have hlt := World.block_lt_of_cell? w0 _ (hcell 0 _ (List.getElem?_eq_getElem hlen))
 refine ⟨b, o, e, ?_, fun j u hu => hI.old (hcell j u hu) hb⟩
 rintro ⟨x, hx, hxb⟩
 rcases hI.own x hx b hxb with h5 | h5
 ·exact hb h5
 ·have hlt : b < w0.heap.size := hlt
  omega
theorem DL.mono (h : ∀ e ∈ l, e ∈ H) {b : Nat} (hb : ¬ DL H b) : ¬ DL l b := fun ⟨e, he, hk⟩ => hb ⟨e, h e he, hk⟩
theorem StE.rd {A : Option Addr} {c : Nat} {st : List Int} (hI : Inv S w0 w (StE A c st :: l)) : Rd w (fun b => ¬ DL l b) 1 (.slice A st.length c) st.length (Ba st) := by
 have hg : w.ownsRow 0 3 1 (.slice A st.length c) st.length (Ba st) := hI.g0
 refine Rd.of_own hg fun k hk _ => ?_
 rintro ⟨e, he, hke⟩
 rw [CW] at hk
 exact (List.pairwise_cons.1 hI.apart).1 e he k hk hke
theorem Rf (hI : Inv (DL l0) w0 w H) (hk : Dm w0) (h0 : ¬ DL l0 0) : Dm w ∧ ¬ DL H 0 := by
 refine ⟨fun i hi => hI.old (hk i hi) h0, ?_⟩
 rintro ⟨x, hx, hxb⟩
 have hlt : 0 < w0.heap.size := World.block_lt_of_cell? w0 _ (hk 0 (by omega))
 rcases hI.own x hx _ hxb with h5 | h5
 ·exact h0 h5
 ·omega
def Mo (w : World) (l : List Ent) (L : Loc) (sts : Nat → List Int) : Prop := ∀ k, k < 8 → Rd w (fun b => ¬ DL l b) 1 (.slice (L k).1 (sts k).length (L k).2) (sts k).length (Ba (sts k))
theorem Mo.now {L : Loc} {sts : Nat → List Int} (h : Mo w0 l0 L sts) (hI : Inv (DL l0) w0 w H) : Mo w H L sts := fun k hk => Rd.now hI (h k hk) (by decide)
theorem Mo.mono {L : Loc} {sts : Nat → List Int} (h : Mo w H L sts) (hs : ∀ e ∈ l, e ∈ H) : Mo w l L sts := fun k hk => (h k hk).mono fun _ hb => DL.mono hs hb
theorem Mo.upd {L : Loc} {sts : Nat → List Int} {k : Nat} {A : Option Addr} {c : Nat} {st : List Int} (h : Mo w l L sts) (hs : Rd w (fun b => ¬ DL l b) 1 (.slice A st.length c) st.length (Ba st)) : Mo w l (DF L k A c) (BC sts k st) := by
 intro j hj
 by_cases hjk : j = k
 ·subst hjk
  have e1 : DF L j A c j = (A, c) := by simp [DF]
  have e2 : BC sts j st j = st := by simp [BC]
  rw [e1, e2]
  exact hs
 ·have e1 : DF L k A c j = L j := by simp [DF, hjk]
  have e2 : BC sts k st j = sts j := by simp [BC, hjk]
  rw [e1, e2]
  exact h j hj
theorem Inv.trans {l1 : List Ent} {w1 : World} (h : Inv (DL l0) w0 w1 l1) (h' : Inv (DL l1) w1 w l) : Inv (DL l0) w0 w l := by
 have h2 : Inv (DL l0) w0 w1 (l1 ++ []) := by rw [List.append_nil]; exact h
 have := h2.turnL h'
 rwa [List.append_nil] at this
end
section
variable {P : Program} {ρ : Env} {oo : Oper} {w : World} {x y : Operand} {t kt et b : Nat} {ks : List (List Nat)} {a : List Nat}
theorem X7 (h : a ∈ ks) (ho : oo.op = .lookup t x y true) (ht : P.underlying t = some (.map kt et)) (hk : P.underlying kt = some .string) (hz : (P.info? et).bind (·.zero) = some (.agg #[])) (hx : ev ρ x = .map (some b)) (hy : ev ρ y = .string (ES a)) (ha : ∀ c ∈ a, c < 256) (hM : KA w b ks) : Ar P ρ oo w (.tuple #[.agg #[], .bool true]) := by
 have := VD (P := P) ho ht hk hz hx hy ha hM
 rwa [decide_eq_true h] at this
theorem X8 (h : a ∉ ks) (ho : oo.op = .lookup t x y true) (ht : P.underlying t = some (.map kt et)) (hk : P.underlying kt = some .string) (hz : (P.info? et).bind (·.zero) = some (.agg #[])) (hx : ev ρ x = .map (some b)) (hy : ev ρ y = .string (ES a)) (ha : ∀ c ∈ a, c < 256) (hM : KA w b ks) : Ar P ρ oo w (.tuple #[.agg #[], .bool false]) := by
 have := VD (P := P) ho ht hk hz hx hy ha hM
 rwa [decide_eq_false h] at this
end
theorem UG {o : Int} {A : Option Addr} {n c bud f db eb : Nat} {L : Loc} {sts : Nat → List Int} {A' : Option Addr} {m c' : Nat} {k : Nat} (hk : k < 8) : (Ew o A n c bud f db eb L sts A' m c')[6 + k * 1]? = some (.slice (L k).1 (sts k).length (L k).2) := by
 rw [Nat.mul_one]
 exact RL hk
theorem Ky {n : Nat} (f : Nat → Bool) (u : Nat) (b : Bool) : (BJ n f).setIfInBounds u (.bool b) = BJ n (BB f u b) := NN f u b
def Dp (o : Int) (sb db eb f : Nat) (A : Option Addr) (c : Nat) (l : List Op8) (ab : Op8 → Op8 → Bool) (bud : Nat) (fu : Nat) (s : SSt) (L : Loc) (l0 : List Ent) (w0 : World) (en : Ending) (w' : World) : Prop :=
 ∃ L' A'' c'', en = .returned (.int .i64 (AP o l ab bud fu s).1) ∧ Inv (DL l0) w0 w' (prt sb o A l.length c bud f db eb L' (AP o l ab bud fu s).2 A'' c'') ∧ ((AP o l ab bud fu s).1 = 2 → L' = L)
theorem Dp.same {o : Int} {sb db eb f : Nat} {A : Option Addr} {c : Nat} {l : List Op8} {ab : Op8 → Op8 → Bool} {bud : Nat} {fu : Nat} {s : SSt} {L : Loc} {l0 : List Ent} {w0 w' : World} {z : Int} {A' : Option Addr} {c' : Nat} (h : AP o l ab bud fu s = (z, s)) (hI : Inv (DL l0) w0 w' (prt sb o A l.length c bud f db eb L s A' c')) : Dp o sb db eb f A c l ab bud fu s L l0 w0 (.returned (.int .i64 z)) w' := by
 unfold Dp
 rw [h]
 exact ⟨L, A', c', rfl, hI, fun _ => rfl⟩
theorem Dp.mk {o : Int} {sb db eb f : Nat} {A : Option Addr} {c : Nat} {l : List Op8} {ab : Op8 → Op8 → Bool} {bud : Nat} {fu : Nat} {s s' : SSt} {L L' : Loc} {l0 : List Ent} {w0 w' : World} {z : Int} {A' : Option Addr} {c' : Nat} (h : AP o l ab bud fu s = (z, s')) (hI : Inv (DL l0) w0 w' (prt sb o A l.length c bud f db eb L' s' A' c')) (hL : z = 2 → L' = L) : Dp o sb db eb f A c l ab bud fu s L l0 w0 (.returned (.int .i64 z)) w' := by
 unfold Dp
 rw [h]
 exact ⟨L', A', c', rfl, hI, hL⟩
theorem QY {n k : Nat} (h : k < n) : (List.range n).drop k = k :: (List.range n).drop (k + 1) := by
 rw [List.drop_eq_getElem_cons (by simpa using h)]
 simp
theorem Qk {l : List Op8} {dn : Nat → Bool} : AaB l dn ↔ DI l dn = true := by
 unfold AaB DI
 simp only [List.all_eq_true, List.mem_range, Bool.or_eq_true, Bool.not_eq_true', decide_eq_false_iff_not]
 refine ⟨fun h i hi => ?_, fun h i hi hr => ?_⟩
 ·by_cases h0 : 0 ≤ (oAt l i).ret
  ·exact .inr (h i hi h0)
  ·exact .inl h0
 ·rcases h i hi with h1 | h1
  ·exact absurd hr h1
  ·exact h1
theorem Nt {l : List Op8} {ab : Op8 → Op8 → Bool} {dn : Nat → Bool} {i : Nat} : Wl l ab dn i ↔ DC l ab dn i = true := by
 unfold Wl DC
 simp only [List.all_eq_true, List.mem_range, Bool.and_eq_true, Bool.or_eq_true, Bool.not_eq_true', beq_iff_eq]
 refine ⟨fun h => ⟨h.1, fun k hk => ?_⟩, fun h => ⟨h.1, fun k hk hki hd => ?_⟩⟩
 ·by_cases hki : k = i
  ·exact .inl (.inl hki)
  ·cases hd : dn k with
   | true => exact .inl (.inr rfl)
   | false => exact .inr (h.2 k hk hki hd)
 ·rcases h.2 k hk with (h1 | h1) | h1
  ·exact absurd h1 hki
  ·rw [hd] at h1; cases h1
  ·exact h1
theorem Jk {b : Bool} {p : Prop} {c : Bool} (h : b = true ↔ p) (h2 : p ↔ c = true) : b = c := by
 have h := h.trans h2
 cases b <;> cases c <;> simp at h ⊢
set_option maxHeartbeats 8000000 in
theorem TR (o : Int) (sb db eb f : Nat) (A : Option Addr) (c : Nat) (l : List Op8) (ab : Op8 → Op8 → Bool) (bud : Nat) (hA : Dw l) (hf : O3 f ab) (h40 : l.length ≤ 40) (hbud : bud ≤ 1000000) :
  ∀ (fu : Nat) (s : SSt) (L : Loc) (A' : Option Addr) (c' : Nat) (w0 : World), DZ l.length s.dn < fu → GoodS o l.length s.dn s.sts → s.ord.length + DZ l.length s.dn ≤ 40 → s.ent.length ≤ bud →
   Inv (DL (prt sb o A l.length c bud f db eb L s A' c')) w0 w0 (prt sb o A l.length c bud f db eb L s A' c') →
   BX w0 (fun b => ¬ DL (prt sb o A l.length c bud f db eb L s A' c') b) (.slice A l.length c) l → Dm w0 → ¬ DL (prt sb o A l.length c bud f db eb L s A' c') 0 → Mo w0 (prt sb o A l.length c bud f db eb L s A' c') L s.sts →
   Calls Tryd.prog 21 #[.pointer (some ⟨sb, 0, none⟩)] w0 (Dp o sb db eb f A c l ab bud fu s L (prt sb o A l.length c bud f db eb L s A' c') w0) := by
 intro fu
 induction fu with
 | zero => intro s L A' c' w0 h; omega
 | succ fu ih =>
 intro s L A' c' w0 hu hG hord hent hI hops hkn hkg hst
 obtain ⟨dn, sts, ord, ent⟩ := s
 have hI0 := hI
 generalize hl0 : prt sb o A l.length c bud f db eb L ⟨dn, sts, ord, ent⟩ A' c' = l0 at hops hkg hst ⊢
 replace hI : Inv (DL l0) w0 w0 [B sb 71 (Ew o A l.length c bud f db eb L sts A' ord.length c'), B db 4 (BJ l.length dn), StE A' c' ord, Fb eb ent] := by rw [hl0] at hI; rw [← hl0] at hI ⊢; exact hI
 have nops : ∀ {w : World} {H : List Ent}, Inv (DL l0) w0 w H → BX w (fun b => ¬ DL H b) (.slice A l.length c) l := fun hI => Rd.now hI hops (by decide)
 have nkn : ∀ {w : World} {H : List Ent}, Inv (DL l0) w0 w H → Dm w := fun hI => (Rf hI hkn hkg).1
 have hi64 := hG.i64
 have hol : ord.length ≤ 40 := by simp only at hord; omega
 have hlen : ∀ k, (sts k).length ≤ 41 := fun k => by
  have h1 := hG.len k
  have h2 := GM l.length dn
  simp only at h1
  omega
 refine Vv Tryd.f21.ntmps Tryd.func21 rfl ?_
 refine Ac (Ab (V8 rfl (Aa ?_)))
 cases hall : DI l dn with
 | true =>
  refine Ac (Ac (Ab (T8 rfl (Va [.pointer _] rfl Tryd.func44 rfl ?_))))
  refine (Po sb A c l db dn _ _ (nops hI) (hI.c0 rfl) (hI.c0 rfl) hI.g1 (by omega)).mono ?_
  rintro e w1 ⟨⟨b, rfl, hb⟩, hp⟩
  obtain rfl : b = true := (Jk hb Qk).trans hall
  refine ⟨_, rfl, ?_⟩
  replace hI := hI.pure hp
  refine Aa (Ad true rfl (Ac (Ab (V8 rfl (Aa ?_)))))
  refine Aj ?_
  exact BD 2 (.inr rfl) rfl (Dp.same (Ga hall) hI)
 | false =>
 refine Ac (Ac (Ab (T8 rfl (Va [.pointer _] rfl Tryd.func44 rfl ?_))))
 refine (Po sb A c l db dn _ _ (nops hI) (hI.c0 rfl) (hI.c0 rfl) hI.g1 (by omega)).mono ?_
 rintro e w1 ⟨⟨b, rfl, hb⟩, hp⟩
 obtain rfl : b = false := (Jk hb Qk).trans hall
 refine ⟨_, rfl, ?_⟩
 replace hI := hI.pure hp
 refine Aa (Ad false rfl (Ah (Ac (Ab (T8 rfl (Va [.pointer _] rfl Tryd.func45 rfl ?_))))))
 refine (UV sb A c l.length db dn L sts _ (hI.c0 rfl) (hI.c0 rfl) hI.g1 (fun j u hu => ((hI.g0 : Blk _ _ _ _).cell _).trans (UF hu)) (fun k hk => (hst.now hI k hk).mono fun _ _ => trivial) (by omega) hi64 (fun k => by have := hlen k; omega)).mono ?_
 rintro e w2 ⟨rfl, hp⟩
 refine ⟨_, rfl, ?_⟩
 replace hI := hI.pure hp
 refine Af rfl rfl rfl (by exact I5 rfl rfl) ?_
 refine Aa ?_
 have hky := LU l.length dn sts
 generalize hkey : Fe l.length dn sts = ky at *
 by_cases hin : ky ∈ ent
 ·refine Ac (Ac (Ab (T8 rfl (Td rfl (V7 14 rfl (V2 (.map _) rfl (hI.c0 rfl) ?_))))))
  refine Af rfl rfl rfl (by exact Lx rfl rfl) ?_
  refine Af rfl rfl rfl (X7 (a := ky) hin rfl Tryd.underlying68 Tryd.underlying9 (by kernel_rfl) rfl rfl hky hI.g3) ?_
  refine Ta rfl (Vl rfl (Vl rfl (Vt (.agg #[]) #[] hI rfl ?_)))
  clear hI; rintro b4 w - - hI
  refine Vx 0 #[] (.agg _) hI rfl ?_
  clear hI; intro w hI
  refine V6 rfl (Aa (Ac (Ab (V5 rfl (Aa (Ad true rfl (Ac (Ab (V8 rfl (Aa ?_))))))))))
  refine Aj ?_
  exact BD 2 (.inr rfl) rfl (Dp.same (F9 hall (by rw [hkey]; exact hin)) hI.d0)
 refine Ac (Ac (Ab (T8 rfl (Td rfl (V7 14 rfl (V2 (.map _) rfl (hI.c0 rfl) ?_))))))
 refine Af rfl rfl rfl (by exact Lx rfl rfl) ?_
 refine Af rfl rfl rfl (X8 (a := ky) hin rfl Tryd.underlying68 Tryd.underlying9 (by kernel_rfl) rfl rfl hky hI.g3) ?_
 refine Ta rfl (Vl rfl (Vl rfl (Vt (.agg #[]) #[] hI rfl ?_)))
 clear hI; rintro b4 w - - hI
 refine Vx 0 #[] (.agg _) hI rfl ?_
 clear hI; intro w hI
 refine V6 rfl (Aa ?_)
 replace hI := hI.d0
 refine Ac (Ab (V5 rfl (Aa (Ad false rfl (Ah ?_)))))
 by_cases hfull : ent.length = bud
 ·refine Ac (Ac (BH (by kernel_rfl) ?_))
  refine BI (T := []) hI.drew ?_
  intro Sx hSx hXS
  replace hI := hI.drew
  refine T3 0 (hXS _ hI) rfl (T9 1 (hXS _ hI) rfl (Vq 2 14 (hXS _ hI) rfl (Vi 3 (.map _) (hXS _ hI) rfl (fun W hW => (hSx W hW).c0 rfl) ?_)))
  refine Ae 4 rfl rfl (by kernel_rfl) (hXS _ hI) rfl (fun W hW => have hI := hSx W hW; (I1 rfl Tryd.underlying68 rfl hI.g3)) ?_
  refine T3 5 (hXS _ hI) rfl (T9 6 (hXS _ hI) rfl (Vq 7 2 (hXS _ hI) rfl (Vi 8 (.int .i64 _) (hXS _ hI) rfl (fun W hW => (hSx W hW).c0 rfl) ?_)))
  refine Ae 9 rfl rfl (by kernel_rfl) (hXS _ hI) rfl (fun W hW => have hI := hSx W hW; (by exact Ze rfl rfl rfl (by omega))) ?_
  refine Av (by kernel_rfl) (Ad true rfl (Ac (Ab (V8 rfl (Aa ?_)))))
  refine Aj ?_
  exact BD 2 (.inr rfl) rfl (Dp.same (Fw hall (by rw [hkey]; exact hin) hfull) hI)
 refine Ac (Ac (BH (by kernel_rfl) ?_))
 refine BI (T := []) hI.drew ?_
 intro Sx hSx hXS
 replace hI := hI.drew
 refine T3 0 (hXS _ hI) rfl (T9 1 (hXS _ hI) rfl (Vq 2 14 (hXS _ hI) rfl (Vi 3 (.map _) (hXS _ hI) rfl (fun W hW => (hSx W hW).c0 rfl) ?_)))
 refine Ae 4 rfl rfl (by kernel_rfl) (hXS _ hI) rfl (fun W hW => have hI := hSx W hW; (I1 rfl Tryd.underlying68 rfl hI.g3)) ?_
 refine T3 5 (hXS _ hI) rfl (T9 6 (hXS _ hI) rfl (Vq 7 2 (hXS _ hI) rfl (Vi 8 (.int .i64 _) (hXS _ hI) rfl (fun W hW => (hSx W hW).c0 rfl) ?_)))
 refine Ae 9 rfl rfl (by kernel_rfl) (hXS _ hI) rfl (fun W hW => have hI := hSx W hW; (by exact Zf rfl rfl rfl (by omega))) ?_
 refine Av (by kernel_rfl) (Ad false rfl (Ah (Ac (Ab (T8 rfl (Td rfl (V7 14 rfl (V2 (.map _) rfl (hI.c0 rfl) ?_))))))))
 refine Af rfl rfl rfl (by exact Lx rfl rfl) ?_
 refine Af rfl rfl rfl (EX (qs := []) (vs := []) [] [] rfl rfl rfl (fun _ => by kernel_rfl)) ?_
 refine TY 3 rfl hI rfl rfl rfl Tryd.underlying68 Tryd.underlying9 rfl rfl rfl hky hin ?_
 clear hI; intro w hI
 replace hI : Inv (DL l0) w0 w [B sb 71 (Ew o A l.length c bud f db eb L sts A' ord.length c'), B db 4 (BJ l.length dn), StE A' c' ord, Fb eb (ent ++ [ky])] := hI
 refine Aa ?_
 have hgo : AP o l ab bud (fu + 1) ⟨dn, sts, ord, ent⟩ = BA o l ab (AP o l ab bud fu) ((List.range l.length).drop 0) ⟨dn, sts, ord, ent ++ [ky]⟩ := by
  rw [Hm hall (by rw [hkey]; exact hin) hfull]
  unfold FE
  rw [hkey]
  rfl
 have hent1 : (ent ++ [ky]).length ≤ bud := by simp; simp only at hent; omega
 refine Ac (Ac (Ab (T8 rfl (Td rfl (V7 1 rfl (V2 (.slice _ _ _) rfl (hI.c0 rfl) (Vj rfl Tryd.underlying22 rfl (V0 rfl (Aa (Am ?_))))))))))
 refine BS (fun mu ρ w => ∃ (k : Nat) (en : List (List Nat)), mu = l.length - k ∧ k ≤ l.length ∧ en.length ≤ bud ∧ AP o l ab bud (fu + 1) ⟨dn, sts, ord, ent⟩ = BA o l ab (AP o l ab bud fu) ((List.range l.length).drop k) ⟨dn, sts, ord, en⟩ ∧ (∃ A' c', Has ρ [(48, .int .i64 (k : Int)), (47, .int .i64 (l.length : Int)), (46, .slice A l.length c), (0, .pointer (some ⟨sb, 0, none⟩))] ∧ Inv (DL l0) w0 w [B sb 71 (Ew o A l.length c bud f db eb L sts A' ord.length c'), B db 4 (BJ l.length dn), StE A' c' ord, Fb eb en])) l.length
  ⟨0, _, rfl, by omega, hent1, hgo, _, _, ⟨rfl, rfl, rfl, rfl, trivial⟩, hI⟩ ?_
 clear hI hent1 hgo hl0
 rintro mu ρ w ⟨k, en, rfl, hk, hen, hgo, A', c', hH, hI⟩
 obtain ⟨σ, rfl⟩ := hH.open
 by_cases hkl : k < l.length
 rotate_left
 ·obtain rfl : k = l.length := by omega
  rw [List.drop_of_length_le (by simp)] at hgo
  refine Ac (Ab (Vp rfl (Aa (Ac (Ad false rfl ?_)))))
  refine BL ?_
  refine Ac (Ab (V8 rfl (Aa ?_)))
  refine Aj ?_
  exact BD 2 (.inr rfl) rfl (Dp.mk hgo hI (fun _ => rfl))
 rw [QY hkl] at hgo
 obtain ⟨bA, oA, rfl, hoc⟩ := (nops hI).at hkl
 have hk8 : CY l k < 8 := hA.CY hkl
 have hk0 := (hA.key k hkl).1
 have hkz : (oAt l k).key = ((CY l k : Nat) : Int) := by unfold CY; omega
 have hgoF : goF o l sts k = match BR o (sts (CY l k)) (oAt l k).kind (oAt l k).a (oAt l k).b with
  | none => none
  | some (st', r) => if (oAt l k).ret ≠ -1 ∧ r ≠ (oAt l k).res then none else some st' := rfl
 generalize hkN : CY l k = kN at hk8 hkz hgoF
 generalize hpk : oAt l k = pk at hoc hkz hgoF
 obtain ⟨p0, p1, p2, p3, p4, p5, p6, p7⟩ := pk
 simp only at hkz hgoF
 subst hkz
 refine Ac (Ab (Vs rfl (Aa (Ac (Ad true rfl (Ah (Ac (Am (Ac (Ab (V0 rfl (Tk 8 rfl Tryd.underlying22 rfl (Tm 8 rfl (by rfl) hoc ?_)))))))))))))
 refine Vt (.agg #[.int .i64 0, .int .i64 0, .int .i64 0, .int .i64 0, .int .i64 0, .int .i64 0, .int .i64 0, .int .i64 0]) (#[.int .i64 0, .int .i64 0, .int .i64 0, .int .i64 0, .int .i64 0, .int .i64 0, .int .i64 0, .int .i64 0]) hI rfl ?_
 clear hI; rintro b7 w - - hI
 refine V8 rfl (Vx 8 (#[_, _, _, _, _, _, _, _]) (.agg _) hI rfl ?_)
 clear hI; intro w hI
 refine Aa ?_
 simp only [opV] at hI
 cases hnx : DC l ab dn k with
 | false =>
  rw [Ik hnx] at hgo
  refine Ac (Ac (Ab (T8 rfl (V0 rfl (Va [.pointer _, .int .i64 _] rfl Tryd.func46 rfl ?_)))))
  refine (Nf sb _ c l db f ab dn k _ _ (nops hI) (hI.c1 rfl) (hI.c1 rfl) (hI.c1 rfl) hI.g2 (by omega) hkl hf).mono ?_
  rintro e w3 ⟨⟨b, rfl, hb⟩, hp⟩
  obtain rfl : b = false := (Jk hb Nt).trans hnx
  refine ⟨_, rfl, ?_⟩
  replace hI := hI.pure hp
  refine Tf rfl (Aa (Ad true rfl ?_))
  refine BL ?_
  replace hI := hI.d0
  refine Ab (Vd rfl (V0 rfl (Aa ?_)))
  exact ⟨l.length - (k + 1), by omega, k + 1, en, rfl, by omega, hen, hgo, A', c', ⟨rfl, rfl, rfl, rfl, trivial⟩, hI⟩
 | true =>
 refine Ac (Ac (Ab (T8 rfl (V0 rfl (Va [.pointer _, .int .i64 _] rfl Tryd.func46 rfl ?_)))))
 refine (Nf sb _ c l db f ab dn k _ _ (nops hI) (hI.c1 rfl) (hI.c1 rfl) (hI.c1 rfl) hI.g2 (by omega) hkl hf).mono ?_
 rintro e w3 ⟨⟨b, rfl, hb⟩, hp⟩
 obtain rfl : b = true := (Jk hb Nt).trans hnx
 refine ⟨_, rfl, ?_⟩
 replace hI := hI.pure hp
 refine T5 rfl (Aa (Ad false rfl (Ah (Ac (BH (by kernel_rfl) ?_)))))
 refine BI (T := []) hI.drew ?_
 intro Sx hSx hXS
 replace hI := hI.drew
 refine T3 0 (hXS _ hI) rfl (Vq 1 1 (hXS _ hI) rfl (Vi 2 (.int .i64 _) (hXS _ hI) rfl (fun W hW => (hSx W hW).c0 rfl) (T9 3 (hXS _ hI) rfl (Vq 4 6 (hXS _ hI) rfl ?_))))
 refine Ae 5 rfl rfl (by kernel_rfl) (hXS _ hI) rfl (fun W hW => have hI := hSx W hW; (F5 (sz := 1) (i := kN) rfl Tryd.underlying69 (by kernel_rfl) rfl rfl rfl hk8)) ?_
 refine Vi 6 (.slice _ _ _) (hXS _ hI) rfl (fun W hW => have hI := hSx W hW; ((hI.g1 : Blk _ _ _ _).cell _).trans (UG hk8)) (Tq 7 (hXS _ hI) rfl (Av (by kernel_rfl) ?_))
 have hdk : dn k = false := He hnx
 cases hstep : BR o (sts kN) p2 p3 p4 with
 | none =>
  have hg0 : goF o l sts k = none := by rw [hgoF, hstep]
  rw [Jc hnx hg0] at hgo
  refine Ac (BH (by kernel_rfl) ?_)
  refine BI (T := []) hI.drew ?_
  intro Sx hSx hXS
  replace hI := hI.drew
  refine T3 0 (hXS _ hI) rfl (T9 1 (hXS _ hI) rfl (Vq 2 0 (hXS _ hI) rfl (Vi 3 (.int .i64 _) (hXS _ hI) rfl (fun W hW => (hSx W hW).c1 rfl) (Vw 4 (hXS _ hI) rfl (Vq 5 2 (hXS _ hI) rfl (Vi 6 (.int .i64 _) (hXS _ hI) rfl (fun W hW => (hSx W hW).c0 rfl) (Vq 7 3 (hXS _ hI) rfl (Vi 8 (.int .i64 _) (hXS _ hI) rfl (fun W hW => (hSx W hW).c0 rfl) (Vq 9 4 (hXS _ hI) rfl (Vi 10 (.int .i64 _) (hXS _ hI) rfl (fun W hW => (hSx W hW).c0 rfl) (V3 11 rfl ?_)))))))))))
  refine Va [.int .i64 _, .slice _ _ _, .int .i64 _, .int .i64 _, .int .i64 _] rfl Tryd.func42 rfl ?_
  refine (Gp o _ _ (sts kN) p2 p3 p4 _ _ (hst.now hI kN hk8) (hG.ok kN) (by have := hlen kN; omega) (nkn hI)).mono ?_
  rintro e w3 hP
  unfold BF at hP
  rw [hstep] at hP
  obtain ⟨rfl, hp⟩ := hP
  refine ⟨_, rfl, ?_⟩
  replace hI := hI.pure hp
  refine Aa ⟨hXS _ hI, ?_⟩
  refine Ae 12 rfl rfl (by kernel_rfl) (hXS _ hI) rfl (fun W hW => have hI := hSx W hW; (by exact Q0 rfl rfl)) ?_
  refine Ae 13 rfl rfl (by kernel_rfl) (hXS _ hI) rfl (fun W hW => have hI := hSx W hW; (LA rfl rfl rfl)) ?_
  refine Ae 14 rfl rfl (by kernel_rfl) (hXS _ hI) rfl (fun W hW => have hI := hSx W hW; (LA rfl rfl rfl)) ?_
  refine Ae 15 rfl rfl (by kernel_rfl) (hXS _ hI) rfl (fun W hW => have hI := hSx W hW; (LA rfl rfl rfl)) ?_
  refine Tq 16 (hXS _ hI) rfl ?_
  refine Ae 17 rfl rfl (by kernel_rfl) (hXS _ hI) rfl (fun W hW => have hI := hSx W hW; (by exact JK rfl rfl)) ?_
  refine Ae 18 rfl rfl (by kernel_rfl) (hXS _ hI) rfl (fun W hW => have hI := hSx W hW; (by exact JL rfl rfl)) ?_
  refine Av (by kernel_rfl) (Ac (Ac (Ab (V5 rfl (Tf rfl (V5 rfl (V4 rfl (V4 rfl (V4 rfl (V4 rfl (V4 rfl (V4 rfl (V4 rfl ?_)))))))))))))
  refine V4 rfl (V4 rfl (Vg rfl (Aa (Ad true rfl ?_))))
  refine BL ?_
  replace hI := hI.d0
  refine Ab (Vd rfl (V0 rfl (Aa ?_)))
  exact ⟨l.length - (k + 1), by omega, k + 1, en, rfl, by omega, hen, hgo, A', c', ⟨rfl, rfl, rfl, rfl, trivial⟩, hI⟩
 | some q =>
 obtain ⟨st', r⟩ := q
 refine Ac (BH (by kernel_rfl) ?_)
 refine BI (T := []) hI.drew ?_
 intro Sx hSx hXS
 replace hI := hI.drew
 refine T3 0 (hXS _ hI) rfl (T9 1 (hXS _ hI) rfl (Vq 2 0 (hXS _ hI) rfl (Vi 3 (.int .i64 _) (hXS _ hI) rfl (fun W hW => (hSx W hW).c1 rfl) (Vw 4 (hXS _ hI) rfl (Vq 5 2 (hXS _ hI) rfl (Vi 6 (.int .i64 _) (hXS _ hI) rfl (fun W hW => (hSx W hW).c0 rfl) (Vq 7 3 (hXS _ hI) rfl (Vi 8 (.int .i64 _) (hXS _ hI) rfl (fun W hW => (hSx W hW).c0 rfl) (Vq 9 4 (hXS _ hI) rfl (Vi 10 (.int .i64 _) (hXS _ hI) rfl (fun W hW => (hSx W hW).c0 rfl) (V3 11 rfl ?_)))))))))))
 refine Va [.int .i64 _, .slice _ _ _, .int .i64 _, .int .i64 _, .int .i64 _] rfl Tryd.func42 rfl ?_
 refine (Gp o _ _ (sts kN) p2 p3 p4 _ _ (hst.now hI kN hk8) (hG.ok kN) (by have := hlen kN; omega) (nkn hI)).mono ?_
 rintro e w3 hP
 unfold BF at hP
 rw [hstep] at hP
 obtain ⟨A1, c1, rfl, hT⟩ := hP
 refine ⟨_, rfl, ?_⟩
 replace hI := hI.app1 hT
 refine Aa ⟨hXS _ hI.d0, ?_⟩
 refine Ae 12 rfl rfl (by kernel_rfl) (hXS _ hI.d0) rfl (fun W hW => have hI := hSx W hW; (by exact Q0 rfl rfl)) ?_
 refine Ae 13 rfl rfl (by kernel_rfl) (hXS _ hI.d0) rfl (fun W hW => have hI := hSx W hW; (LA rfl rfl rfl)) ?_
 refine Ae 14 rfl rfl (by kernel_rfl) (hXS _ hI.d0) rfl (fun W hW => have hI := hSx W hW; (LA rfl rfl rfl)) ?_
 refine Ae 15 rfl rfl (by kernel_rfl) (hXS _ hI.d0) rfl (fun W hW => have hI := hSx W hW; (LA rfl rfl rfl)) ?_
 refine Tq 16 (hXS _ hI.d0) rfl ?_
 refine Ae 17 rfl rfl (by kernel_rfl) (hXS _ hI.d0) rfl (fun W hW => have hI := hSx W hW; (by exact JK rfl rfl)) ?_
 refine Ae 18 rfl rfl (by kernel_rfl) (hXS _ hI.d0) rfl (fun W hW => have hI := hSx W hW; (by exact JL rfl rfl)) ?_
 refine Av (by kernel_rfl) ?_
 by_cases hret : p7 ≠ -1 ∧ r ≠ p5
 ·have hg0 : goF o l sts k = none := by rw [hgoF, hstep]; exact if_pos hret
  rw [Jc hnx hg0] at hgo
  obtain ⟨hr1, hr2⟩ := hret
  refine Ac (Ac (Ab (V5 rfl (T5 rfl (V5 rfl (V7 7 rfl (V2 (.int .i64 _) rfl (hI.c1 rfl) (Tp rfl (V5 rfl (V0 rfl (V7 5 rfl (V2 (.int .i64 _) rfl (hI.c1 rfl) (Tp rfl ?_)))))))))))))
  refine Vg rfl (Vb rfl (Aa (Ad true rfl ?_)))
  refine BL ?_
  replace hI := hI.d0.d0
  refine Ab (Vd rfl (V0 rfl (Aa ?_)))
  exact ⟨l.length - (k + 1), by omega, k + 1, en, rfl, by omega, hen, hgo, A', c', ⟨rfl, rfl, rfl, rfl, trivial⟩, hI⟩
 have hg1 : goF o l sts k = some st' := by rw [hgoF, hstep]; exact if_neg hret
 refine Bw (fun ρ w => Has ρ [(48, .int .i64 (k : Int)), (47, .int .i64 (l.length : Int)), (46, .slice (some ⟨bA, oA, none⟩) l.length c), (0, .pointer (some ⟨sb, 0, none⟩)), (6, .int .i64 (k : Int)), (7, .pointer (some ⟨b7, 0, none⟩)), (8, .slice (L kN).1 (sts kN).length (L kN).2), (9, .slice A1 st'.length c1)] ∧ Inv (DL l0) w0 w [StE A1 c1 st', B b7 63 #[.int .i64 p0, .int .i64 (kN : Int), .int .i64 p2, .int .i64 p3, .int .i64 p4, .int .i64 p5, .int .i64 p6, .int .i64 p7], B sb 71 (Ew o (some ⟨bA, oA, none⟩) l.length c bud f db eb L sts A' ord.length c'), B db 4 (BJ l.length dn), StE A' c' ord, Fb eb en]) ?_ ?_
 ·by_cases h7 : p7 = -1
  ·refine Ac (Ab (V5 rfl (T5 rfl (V5 rfl (V7 7 rfl (V2 (.int .i64 _) rfl (hI.c1 rfl) (Tc rfl (V5 rfl (V4 rfl (V4 rfl (V4 rfl (V4 rfl (Vb rfl ?_)))))))))))))
   refine Vb rfl (Aa (Ad false rfl (Ah ?_)))
   exact ⟨⟨rfl, rfl, rfl, rfl, rfl, rfl, rfl, rfl, trivial⟩, hI⟩
  ·have h5 : r = p5 := by
    rcases Classical.em (r = p5) with h | h
    ·exact h
    ·exact absurd ⟨h7, h⟩ hret
   refine Ac (Ab (V5 rfl (T5 rfl (V5 rfl (V7 7 rfl (V2 (.int .i64 _) rfl (hI.c1 rfl) (Tp rfl (V5 rfl (V0 rfl (V7 5 rfl (V2 (.int .i64 _) rfl (hI.c1 rfl) (Tc rfl (Vg rfl ?_)))))))))))))
   refine Vb rfl (Aa (Ad false rfl (Ah ?_)))
   exact ⟨⟨rfl, rfl, rfl, rfl, rfl, rfl, rfl, rfl, trivial⟩, hI⟩
 clear hI
 rintro ρ w ⟨hH, hI⟩
 obtain ⟨σ, rfl⟩ := hH.open
 refine Bw (fun ρ w => Has ρ [(48, .int .i64 (k : Int)), (47, .int .i64 (l.length : Int)), (46, .slice (some ⟨bA, oA, none⟩) l.length c), (0, .pointer (some ⟨sb, 0, none⟩)), (6, .int .i64 (k : Int)), (7, .pointer (some ⟨b7, 0, none⟩)), (8, .slice (L kN).1 (sts kN).length (L kN).2)] ∧ Inv (DL l0) w0 w [StE A1 c1 st', B b7 63 #[.int .i64 p0, .int .i64 (kN : Int), .int .i64 p2, .int .i64 p3, .int .i64 p4, .int .i64 p5, .int .i64 p6, .int .i64 p7], B sb 71 (Ew o (some ⟨bA, oA, none⟩) l.length c bud f db eb (DF L kN A1 c1) (BC sts kN st') A' ord.length c'), B db 4 (BJ l.length (BB dn k true)), StE A' c' ord, Fb eb en]) ?_ ?_
 ·refine BH (by kernel_rfl) ?_
  refine BI (T := [14]) hI.d3.drew ?_
  intro Sx hSx hXS
  replace hI := hI.drew
  refine T3 0 (hXS _ hI.d3) rfl (T9 1 (hXS _ hI.d3) rfl (Vq 2 4 (hXS _ hI.d3) rfl (Vi 3 (.slice _ _ _) (hXS _ hI.d3) rfl (fun W hW => (hSx W hW).c2 rfl) (Vu 4 (hXS _ hI.d3) rfl (T3 5 (hXS _ hI.d3) rfl (Vq 6 1 (hXS _ hI.d3) rfl (Vi 7 (.int .i64 _) (hXS _ hI.d3) rfl (fun W hW => (hSx W hW).c1 rfl) (Vw 8 (hXS _ hI.d3) rfl (Vm 9 (hXS _ hI.d3) rfl Tryd.underlying65 rfl (T9 11 (hXS _ hI.d3) rfl (Vq 12 6 (hXS _ hI.d3) rfl (V3 10 rfl ?_))))))))))))
  refine H5 3 rfl (u := .bool true) (j := k) hI rfl rfl rfl rfl rfl rfl (by kernel_rfl) rfl (by simp [Nat.blt, BJ]; omega) rfl ?_
  clear hI; intro w hI
  simp only [List.set_cons_succ, List.set_cons_zero] at hI
  rw [Ky] at hI
  refine Aa ⟨hXS _ hI.d3, ?_⟩
  refine Ae 13 rfl rfl (by kernel_rfl) (hXS _ hI.d3) rfl (fun W hW => have hI := hSx W hW; (F5 (sz := 1) (i := kN) rfl Tryd.underlying69 (by kernel_rfl) rfl rfl rfl hk8)) ?_
  refine Ca (by kernel_rfl) ?_
  clear hXS hSx
  refine Iy 14 rfl (by kernel_rfl) ?_
  refine H5 2 rfl (u := .slice A1 st'.length c1) (j := 6 + kN * 1) hI rfl rfl rfl rfl rfl rfl (by kernel_rfl) rfl (by simp [Nat.blt, Ew]; omega) rfl ?_
  clear hI; intro w hI
  simp only [List.set_cons_succ, List.set_cons_zero] at hI
  rw [Nat.mul_one, Lh hk8] at hI
  refine Aa ?_
  refine Iz (by kernel_rfl) ?_
  exact ⟨⟨rfl, rfl, rfl, rfl, rfl, rfl, rfl, trivial⟩, hI⟩
 clear hI
 rintro ρ w ⟨hH, hI⟩
 obtain ⟨σ, rfl⟩ := hH.open
 refine Ac (Ab (T8 rfl (T8 rfl (Td rfl (V7 5 rfl (V2 (.slice _ _ _) rfl (hI.c2 rfl) (V0 rfl (Vk [(0, .int .i64 _)] [_] [.int .i64 0] [0] hI rfl Tryd.underlying24 (fun _ => by kernel_rfl) ?_))))))))
 clear hI; rintro b112 w - - hI
 refine Ve 8 (.int .i64 0) hI rfl Tryd.underlying24 rfl (by rfl) hI.lit0 (by rfl) (Nat.zero_le _) ?_
 clear hI; rintro A113 c113 w hA113 hc113 hI
 replace hI := hI.d0
 refine Td rfl (V7 5 rfl ?_)
 refine AaG (u := .slice _ _ _) hI rfl rfl rfl rfl rfl rfl (by kernel_rfl) rfl rfl rfl ?_
 clear hI; intro w hI
 refine Aa ?_
 replace hI : Inv (DL l0) w0 w [StE A1 c1 st', B b7 63 #[.int .i64 p0, .int .i64 (kN : Int), .int .i64 p2, .int .i64 p3, .int .i64 p4, .int .i64 p5, .int .i64 p6, .int .i64 p7], B sb 71 (Ew o (some ⟨bA, oA, none⟩) l.length c bud f db eb (DF L kN A1 c1) (BC sts kN st') A113 (ord.length + 1) c113), B db 4 (BJ l.length (BB dn k true)), Row 0 3 1 A113 (ord.length + 1) c113 (Ba ord ++ [.int .i64 (k : Int)]), Fb eb en] := hI
 replace hI : Inv (DL l0) w0 w [StE A1 c1 st', B b7 63 #[.int .i64 p0, .int .i64 (kN : Int), .int .i64 p2, .int .i64 p3, .int .i64 p4, .int .i64 p5, .int .i64 p6, .int .i64 p7], B sb 71 (Ew o (some ⟨bA, oA, none⟩) l.length c bud f db eb (DF L kN A1 c1) (BC sts kN st') A113 (ord ++ [(k : Int)]).length c113), B db 4 (BJ l.length (BB dn k true)), StE A113 c113 (ord ++ [(k : Int)]), Fb eb en] := by
  unfold StE
  rw [PW, List.length_append, List.length_singleton]
  exact hI
 have hu1 := K9 hkl hdk
 have hG1 := hG.step hA hkl hdk hg1
 rw [hkN] at hG1
 have hs1 : Cv l ⟨dn, sts, ord, en⟩ k st' = ⟨BB dn k true, BC sts kN st', ord ++ [(k : Int)], en⟩ := by unfold Cv; rw [hkN]
 have hst1 := StE.rd hI
 obtain ⟨hk1, hk2⟩ := Rf hI hkn hkg
 have ho1 := nops hI
 have hst0 := (hst.now hI)
 have hsub : ∀ e ∈ prt sb o (some ⟨bA, oA, none⟩) l.length c bud f db eb (DF L kN A1 c1) ⟨BB dn k true, BC sts kN st', ord ++ [(k : Int)], en⟩ A113 c113, e ∈ [StE A1 c1 st', B b7 63 #[.int .i64 p0, .int .i64 (kN : Int), .int .i64 p2, .int .i64 p3, .int .i64 p4, .int .i64 p5, .int .i64 p6, .int .i64 p7], B sb 71 (Ew o (some ⟨bA, oA, none⟩) l.length c bud f db eb (DF L kN A1 c1) (BC sts kN st') A113 (ord ++ [(k : Int)]).length c113), B db 4 (BJ l.length (BB dn k true)), StE A113 c113 (ord ++ [(k : Int)]), Fb eb en] := fun e he => List.mem_cons_of_mem _ (List.mem_cons_of_mem _ he)
 replace hI : Inv (DL l0) w0 w (prt sb o (some ⟨bA, oA, none⟩) l.length c bud f db eb (DF L kN A1 c1) ⟨BB dn k true, BC sts kN st', ord ++ [(k : Int)], en⟩ A113 c113 ++ [StE A1 c1 st', B b7 63 #[.int .i64 p0, .int .i64 (kN : Int), .int .i64 p2, .int .i64 p3, .int .i64 p4, .int .i64 p5, .int .i64 p6, .int .i64 p7]]) := hI.perm (List.perm_append_comm (l₁ := [_, _]))
 have hcall := ih ⟨BB dn k true, BC sts kN st', ord ++ [(k : Int)], en⟩ (DF L kN A1 c1) A113 c113 w (by simp only; simp only at hu; omega) hG1 (by simp only [List.length_append, List.length_singleton]; simp only at hord; omega) hen hI.from (Rd.mono ho1 fun _ hb => DL.mono hsub hb) hk1 (DL.mono hsub hk2) ((hst0.mono hsub).upd (hst1.mono fun _ hb => DL.mono (fun e he => List.mem_cons_of_mem _ he) hb))
 by_cases hcode : (AP o l ab bud fu ⟨BB dn k true, BC sts kN st', ord ++ [(k : Int)], en⟩).1 = 2
 rotate_left
 ·rw [JS hnx hg1 (by rw [hs1]; exact hcode), hs1] at hgo
  refine Ac (Ac (Ab (T8 rfl (Va [.pointer _] rfl Tryd.func21 rfl ?_))))
  refine hcall.mono ?_
  generalize hR : AP o l ab bud fu ⟨BB dn k true, BC sts kN st', ord ++ [(k : Int)], en⟩ = R at hcode hgo
  rintro e w4 ⟨L', A2, c2, rfl, hT, hLL⟩
  rw [hR] at hT hLL ⊢
  obtain ⟨z, s'⟩ := R
  simp only at hcode hT hLL
  refine ⟨_, rfl, ?_⟩
  replace hI := hI.turnL hT
  refine V8 rfl (Aa (Ac (Ab (V0 rfl (Tp rfl (Aa (Ad true rfl (Ac (Ab (V0 rfl (V8 rfl (Aa ?_))))))))))))
  refine Aj ?_
  exact BD 2 (.inr rfl) rfl (Dp.mk hgo hI.d4.d4 (fun e => absurd e hcode))
 rw [LP hnx hg1 (by rw [hs1]; exact hcode), hs1] at hgo
 have heq := WM hcode
 have hen2 : (AP o l ab bud fu ⟨BB dn k true, BC sts kN st', ord ++ [(k : Int)], en⟩).2.ent.length ≤ bud := NH fu _ hen
 refine Ac (Ac (Ab (T8 rfl (Va [.pointer _] rfl Tryd.func21 rfl ?_))))
 refine hcall.mono ?_
 rintro e w4 ⟨L', A2, c2, rfl, hT, hLL⟩
 obtain rfl := hLL hcode
 rw [heq] at hT
 rw [hcode]
 refine ⟨_, rfl, ?_⟩
 replace hI := hI.turnL hT
 refine V8 rfl (Aa ?_)
 clear hcall heq ih
 generalize (AP o l ab bud fu ⟨BB dn k true, BC sts kN st', ord ++ [(k : Int)], en⟩).2.ent = en2 at hI hen2 hgo
 replace hI : Inv (DL l0) w0 w4 [B sb 71 (Ew o (some ⟨bA, oA, none⟩) l.length c bud f db eb (DF L kN A1 c1) (BC sts kN st') A2 (ord ++ [(k : Int)]).length c2), B db 4 (BJ l.length (BB dn k true)), StE A2 c2 (ord ++ [(k : Int)]), Fb eb en2, StE A1 c1 st', B b7 63 #[.int .i64 p0, .int .i64 (kN : Int), .int .i64 p2, .int .i64 p3, .int .i64 p4, .int .i64 p5, .int .i64 p6, .int .i64 p7]] := hI
 refine Ac (Ab (V0 rfl (Tc rfl (Aa (Ad false rfl (Ah ?_))))))
 refine Bw (fun ρ w => Has ρ [(48, .int .i64 (k : Int)), (47, .int .i64 (l.length : Int)), (46, .slice (some ⟨bA, oA, none⟩) l.length c), (0, .pointer (some ⟨sb, 0, none⟩))] ∧ Inv (DL l0) w0 w [B sb 71 (Ew o (some ⟨bA, oA, none⟩) l.length c bud f db eb L sts A2 (ord ++ [(k : Int)]).length c2), B db 4 (BJ l.length dn), StE A2 c2 (ord ++ [(k : Int)]), Fb eb en2, StE A1 c1 st', B b7 63 #[.int .i64 p0, .int .i64 (kN : Int), .int .i64 p2, .int .i64 p3, .int .i64 p4, .int .i64 p5, .int .i64 p6, .int .i64 p7]]) ?_ ?_
 ·refine BH (by kernel_rfl) ?_
  refine BI (T := [14]) hI.d1.drew ?_
  intro Sx hSx hXS
  replace hI := hI.drew
  refine T3 0 (hXS _ hI.d1) rfl (T9 1 (hXS _ hI.d1) rfl (Vq 2 4 (hXS _ hI.d1) rfl (Vi 3 (.slice _ _ _) (hXS _ hI.d1) rfl (fun W hW => (hSx W hW).c0 rfl) (Vu 4 (hXS _ hI.d1) rfl (T3 5 (hXS _ hI.d1) rfl (Vq 6 1 (hXS _ hI.d1) rfl (Vi 7 (.int .i64 _) (hXS _ hI.d1) rfl (fun W hW => (hSx W hW).c4 rfl) (Vw 8 (hXS _ hI.d1) rfl (Vm 9 (hXS _ hI.d1) rfl Tryd.underlying65 rfl (T9 11 (hXS _ hI.d1) rfl (Vq 12 6 (hXS _ hI.d1) rfl (V3 10 rfl ?_))))))))))))
  refine H5 1 rfl (u := .bool false) (j := k) hI rfl rfl rfl rfl rfl rfl (by kernel_rfl) rfl (by simp [Nat.blt, BJ]; omega) rfl ?_
  clear hI; intro w hI
  simp only [List.set_cons_succ, List.set_cons_zero] at hI
  rw [Ky, Rp hdk] at hI
  refine Aa ⟨hXS _ hI.d1, ?_⟩
  refine Ae 13 rfl rfl (by kernel_rfl) (hXS _ hI.d1) rfl (fun W hW => have hI := hSx W hW; (F5 (sz := 1) (i := kN) rfl Tryd.underlying69 (by kernel_rfl) rfl rfl rfl hk8)) ?_
  refine Ca (by kernel_rfl) ?_
  clear hXS hSx
  refine Iy 14 rfl (by kernel_rfl) ?_
  refine H5 0 rfl (u := .slice (L kN).1 (sts kN).length (L kN).2) (j := 6 + kN * 1) hI rfl rfl rfl rfl rfl rfl (by kernel_rfl) rfl (by simp [Nat.blt, Ew]; omega) rfl ?_
  clear hI; intro w hI
  simp only [List.set_cons_succ, List.set_cons_zero] at hI
  rw [Nat.mul_one, Lh hk8, Sy, QD] at hI
  refine Aa ?_
  refine Iz (by kernel_rfl) ?_
  exact ⟨⟨rfl, rfl, rfl, rfl, trivial⟩, hI⟩
 clear hI
 rintro ρ w ⟨hH, hI⟩
 obtain ⟨σ, rfl⟩ := hH.open
 have hrow : w.ownsRow 0 3 1 (.slice A2 (ord ++ [(k : Int)]).length c2) (ord ++ [(k : Int)]).length (Ba (ord ++ [(k : Int)])) := hI.g2
 have hl1 : (ord ++ [(k : Int)]).length = ord.length + 1 := by simp
 obtain ⟨g, og, rfl⟩ := G9 hrow (by omega) (by omega)
 have hcap : (ord ++ [(k : Int)]).length ≤ c2 ∧ c2 ≤ 9223372036854775807 := by
  rcases Gq hrow with ⟨hA, _⟩ | ⟨_, _, _, _, h1, h2, _⟩
  ·cases hA
  ·exact ⟨h1, h2⟩
 refine BH (by kernel_rfl) ?_
 refine BI (T := [14]) hI.drew ?_
 intro Sx hSx hXS
 replace hI := hI.drew
 refine T3 0 (hXS _ hI) rfl (T3 1 (hXS _ hI) rfl (T9 2 (hXS _ hI) rfl (Vq 3 5 (hXS _ hI) rfl (Vi 4 (.slice _ _ _) (hXS _ hI) rfl (fun W hW => (hSx W hW).c0 rfl) (T3 5 (hXS _ hI) rfl (T9 6 (hXS _ hI) rfl (Vq 7 5 (hXS _ hI) rfl (Vi 8 (.slice _ _ _) (hXS _ hI) rfl (fun W hW => (hSx W hW).c0 rfl) ?_))))))))
 refine Ae 9 rfl rfl (by kernel_rfl) (hXS _ hI) rfl (fun W hW => have hI := hSx W hW; (Pt rfl Tryd.underlying24 rfl)) ?_
 refine Ae 10 rfl rfl (by kernel_rfl) (hXS _ hI) rfl (fun W hW => have hI := hSx W hW; (Nj (b := 1) rfl rfl rfl (by omega) (by omega))) ?_
 refine Ae 11 rfl rfl (by kernel_rfl) (hXS _ hI) rfl (fun W hW => have hI := hSx W hW; (Gt (sz := 1) (i := (ord ++ [(k : Int)]).length - 1) rfl Tryd.underlying24 (by kernel_rfl) rfl rfl (by omega))) ?_
 refine T9 12 (hXS _ hI) rfl (Vq 13 5 (hXS _ hI) rfl ?_)
 refine Ca (by kernel_rfl) ?_
 clear hXS hSx
 refine Iy 14 rfl (by kernel_rfl) ?_
 refine Rz (u := .slice _ _ _) hI rfl rfl rfl rfl rfl rfl (by kernel_rfl) rfl rfl rfl ?_
 clear hI; intro w hI
 refine Aa ?_
 refine Iz (by kernel_rfl) ?_
 replace hI : Inv (DL l0) w0 w [B sb 71 (Ew o (some ⟨bA, oA, none⟩) l.length c bud f db eb L sts (some ⟨g, og, none⟩) ((ord ++ [(k : Int)]).length - 1) c2), B db 4 (BJ l.length dn), StE (some ⟨g, og, none⟩) c2 (ord ++ [(k : Int)]), Fb eb en2, StE A1 c1 st', B b7 63 #[.int .i64 p0, .int .i64 (kN : Int), .int .i64 p2, .int .i64 p3, .int .i64 p4, .int .i64 p5, .int .i64 p6, .int .i64 p7]] := hI
 replace hI := (hI.u2 (e' := StE (some ⟨g, og, none⟩) c2 ((ord ++ [(k : Int)]).take ((ord ++ [(k : Int)]).length - 1))) (Chg.refl _ _) (Qn (hI.ok _ (by simp)) _ (by omega)) (fun k hk => .inl hk)).d4.d4
 rw [hl1, Nat.add_sub_cancel, List.take_left] at hI
 refine Ab (Vd rfl (V0 rfl (Aa ?_)))
 exact ⟨l.length - (k + 1), by omega, k + 1, en2, rfl, by omega, hen2, hgo, _, _, ⟨rfl, rfl, rfl, rfl, trivial⟩, hI⟩
def Qv (g j : Nat) (v : Value) : Ent := ⟨fun k => k = g, fun w => w.cell? ⟨g, j, none⟩ = some v⟩
theorem Qv.ok {w : World} {g j : Nat} {v : Value} (h : w.cell? ⟨g, j, none⟩ = some v) : (Qv g j v).ok w := by
 refine Ent.mk_ok h (fun k hk => ?_) (fun S w1 w2 hc hS h1 => ?_)
 ·have : k = g := hk
  subst this
  exact World.block_lt_of_cell? w _ h
 ·exact (World.cell?_of_block (hc.block g (World.block_lt_of_cell? w1 _ h1) (hS g rfl))).trans h1
section
variable {S : Nat → Prop} {w0 w : World} {H : List Ent}
theorem Inv.cellE {g t j : Nat} {cs : Array Value} {v : Value} (h : Inv S w0 w (B g t cs :: H)) (hc : cs[j]? = some v) : Inv S w0 w [Qv g j v] :=
 ⟨h.chg, fun e he => by rw [List.mem_singleton.1 he]; exact Qv.ok (h.c0 hc), fun e he k hk => by rw [List.mem_singleton.1 he] at hk; exact h.own (B g t cs) (by simp) k hk, List.pairwise_singleton ..⟩
theorem Inv.mapE {o : Int} {A : Option Addr} {n c bud f db eb sb : Nat} {L : Loc} {sts : Nat → List Int} {A' : Option Addr} {m c' : Nat} (h : Inv S w0 w (B sb 71 (Ew o A n c bud f db eb L sts A' m c') :: H)) : Inv S w0 w [Qv sb 14 (.map (some eb))] := h.cellE rfl
theorem Inv.all0 (h : Inv (fun _ => False) w0 w H) {size n : Nat} {v : Value} {xs : List Value} {D : Nat → Prop} (hr : Rd w0 D size v n xs) (hs : 0 < size) : Rd w (fun b => ¬ DL H b) size v n xs := by
 have h' : Inv (DL []) w0 w H := ⟨h.chg.mono (fun _ _ hk => hk.elim), h.ok, fun e he k hk => (h.own e he k hk).imp (fun hh => hh.elim) id, h.apart⟩
 exact Rd.now h' (hr.mono fun _ _ => fun ⟨e, he, _⟩ => by cases he) hs
theorem Inv.kn0 (h : Inv (fun _ => False) w0 w H) (hk : Dm w0) : Dm w ∧ ¬ DL H 0 := by
 have h' : Inv (DL []) w0 w H := ⟨h.chg.mono (fun _ _ hk => hk.elim), h.ok, fun e he k hk => (h.own e he k hk).imp (fun hh => hh.elim) id, h.apart⟩
 exact Rf h' hk (fun ⟨e, he, _⟩ => by cases he)
theorem A9.rd {n i : Nat} {es : Nat → Ent} {l : List Ent} {A : Option Addr} {c : Nat} {st : List Int} (hI : Inv S w0 w (A9 n es :: l)) (hi : i < n) (he : es i = StE A c st) : Rd w (fun b => ¬ DL l b) 1 (.slice A st.length c) st.length (Ba st) := by
 have hg : (es i).Φ w := hI.many_at hi
 rw [he] at hg
 have hg : w.ownsRow 0 3 1 (.slice A st.length c) st.length (Ba st) := hg
 refine Rd.of_own hg fun k hk _ => ?_
 rintro ⟨e, hel, hke⟩
 rw [CW] at hk
 exact (List.pairwise_cons.1 hI.apart).1 e hel k ⟨i, hi, by rw [he]; exact hk⟩ hke
end
def stK (o : Int) (k : Nat) : Nat → List Int := fun j => if j < k then Bl o else []
def PP (L : Loc) (k : Nat) : Loc := fun j => if j < k then L j else (none, 0)
def Gi (r : Int × SSt) : List Int := if r.1 = 1 then r.2.ord else []
def Jr (o : Int) (l : List Op8) (ab : Op8 → Op8 → Bool) (bud : Int) (w0 : World) (en : Ending) (w' : World) : Prop :=
 (Bh o l bud ∧ ∃ A' c', en = .returned (.tuple #[.agg #[.int .i64 (Be o l ab bud.toNat).1, .slice A' (Gi (Be o l ab bud.toNat)).length c', .int .i64 ((Be o l ab bud.toNat).2.ent.length : Int)], .nilIface]) ∧ Inv (fun _ => False) w0 w' [StE A' c' (Gi (Be o l ab bud.toNat))]) ∨
 (¬ Bh o l bud ∧ (∃ x, Cw x ∧ en = .returned (.tuple #[.agg #[.int .i64 0, .slice none 0 0, .int .i64 0], x])) ∧ Pure w0 w')
def FW (o : Int) (l : List Op8) (ab : Op8 → Op8 → Bool) (bud : Int) (w0 : World) (en : Ending) (w' : World) : Prop :=
 (Bh o l bud ∧ ∃ A' c', en = .returned (.tuple #[.agg #[.int .i64 (Be o l ab bud.toNat).1, .slice A' (Gi (Be o l ab bud.toNat)).length c', .int .i64 ((Be o l ab bud.toNat).2.ent.length : Int)], .nilIface]) ∧ Inv (fun _ => False) w0 w' [StE A' c' (Gi (Be o l ab bud.toNat))]) ∨
 (¬ Bh o l bud ∧ (∃ u, RB o l bud u ∧ en = .returned (.tuple #[.agg #[.int .i64 0, .slice none 0 0, .int .i64 0], .iface 48 (.int .i64 u)])) ∧ Pure w0 w')
theorem FW.any {o : Int} {l : List Op8} {ab : Op8 → Op8 → Bool} {bud : Int} {w0 : World} {en : Ending} {w' : World} (h : FW o l ab bud w0 en w') : Jr o l ab bud w0 en w' :=
 h.imp id fun ⟨h1, ⟨u, _, h2⟩, h3⟩ => ⟨h1, ⟨_, ⟨u, rfl⟩, h2⟩, h3⟩
theorem UD (o : Int) (k : Nat) : BC (stK o k) k (Bl o) = stK o (k + 1) := by
 funext j
 unfold BC stK
 by_cases h : j = k
 ·subst h; simp
 ·rw [if_neg h]
  by_cases h2 : j < k
  ·rw [if_pos h2, if_pos (by omega)]
  ·rw [if_neg h2, if_neg (by omega)]
theorem TL (L : Loc) (k : Nat) (A1 : Option Addr) (c1 : Nat) : DF (PP L k) k A1 c1 = PP (DF L k A1 c1) (k + 1) := by
 funext j
 unfold DF PP
 by_cases h : j = k
 ·subst h; simp
 ·rw [if_neg h]
  by_cases h2 : j < k
  ·rw [if_pos h2, if_pos (by omega)]; simp [h]
  ·rw [if_neg h2, if_neg (by omega)]
set_option maxHeartbeats 8000000 in
theorem IJ (o : Int) (A : Option Addr) (n c : Nat) (l : List Op8) (bud : Int) (f : Nat) (ab : Op8 → Op8 → Bool) (D : Nat → Prop) (w0 : World) (h : BX w0 D (.slice A n c) l) (hk : Dm w0) (hf : O3 f ab) :
  Calls Tryd.prog 12 #[.int .i64 o, .slice A n c, .int .i64 bud, .func (.func f) #[] #[]] w0 (FW o l ab bud w0) := by
 obtain ⟨hn, hc1, hc2⟩ := h.len
 subst hn
 have hI := Inv.start (fun _ => False) w0
 refine Vv Tryd.f12.ntmps Tryd.func12 rfl ?_
 refine Ac (Ab (Vt (.agg #[.int .i64 0, .slice none 0 0, .int .i64 0]) (#[.int .i64 0, .slice none 0 0, .int .i64 0]) hI rfl ?_))
 clear hI; rintro b8 w - - hI
 refine Vz rfl (Aa ?_)
 by_cases hok : Bh o l bud
 rotate_left
 ·refine Ac (Ac (Ab (V0 rfl (V9 rfl (V0 rfl (Va [.int .i64 _, .slice _ _ _, .int .i64 _] rfl Tryd.func18 rfl ?_))))))
  refine (Gz o A l.length c l bud D _ (h.pure hI.pu) (hk.pure hI.pu)).mono ?_
  rintro e w1 ⟨hp, ⟨h1, _⟩ | ⟨_, z, hz, rfl⟩⟩
  ·exact absurd h1 hok
  refine ⟨_, rfl, ?_⟩
  replace hI := hI.pure hp
  refine T6 rfl (Aa (Ac (Ab (Ti rfl ?_))))
  refine Af rfl rfl rfl (by exact Eo rfl Tryd.underlying28 rfl rfl) ?_
  refine Aa (Ad true rfl (Ac (Ab ?_)))
  refine Af rfl rfl rfl (EX (qs := []) (vs := [_, _, _]) [.int .i64 0, .slice none 0 0, .int .i64 0] [] rfl rfl rfl (fun _ => by kernel_rfl)) ?_
  refine Ti rfl (Vx 3 (#[_, _, _]) (.agg _) hI rfl ?_)
  clear hI; intro w hI
  refine T6 rfl (Aa ?_)
  refine Aj ?_
  refine Kk (n := 3) (t := 26) (.inr rfl) rfl rfl (by kernel_rfl) (by kernel_rfl) rfl hI.g0 ?_
  exact .inr ⟨hok, ⟨z, hz, rfl⟩, hI.pu⟩
 have hA := Mh hok
 obtain ⟨hb0, hb1⟩ : 0 ≤ bud ∧ bud ≤ 1000000 := ⟨hok.2.2.1, hok.2.2.2.1⟩
 have h40 : l.length ≤ 40 := hok.2.2.2.2.1.1
 obtain ⟨bn, rfl⟩ : ∃ bn : Nat, bud = (bn : Int) := ⟨bud.toNat, by omega⟩
 refine Ac (Ac (Ab (V0 rfl (V9 rfl (V0 rfl (Va [.int .i64 _, .slice _ _ _, .int .i64 _] rfl Tryd.func18 rfl ?_))))))
 refine (Gz o A l.length c l _ D _ (h.pure hI.pu) (hk.pure hI.pu)).mono ?_
 rintro e w1 ⟨hp, ⟨_, rfl⟩ | ⟨h1, _⟩⟩
 rotate_left
 ·exact absurd hok h1
 refine ⟨_, rfl, ?_⟩
 replace hI := hI.pure hp
 refine Vz rfl (Aa (Ac (Ab (Th rfl ?_))))
 refine Af rfl rfl rfl (by exact EW rfl Tryd.underlying28 rfl) ?_
 refine Aa (Ad false rfl (Ah (Ac (Ab (V0 rfl (V9 rfl (V0 rfl ?_)))))))
 refine Af rfl rfl rfl (by exact ZZ rfl rfl) ?_
 refine V9 rfl (Vj rfl Tryd.underlying22 rfl ?_)
 refine NQ (by_ := 1) (z := .bool false) hI rfl rfl rfl rfl rfl rfl Tryd.underlying65 (by kernel_rfl) rfl (by omega) (by omega) ?_
 clear hI; rintro b28 w - - hI
 refine Xj hI rfl rfl rfl rfl ?_
 clear hI; rintro b29 w - - hI
 refine Af rfl rfl rfl (EX (qs := [(0, .int .i64 _), (1, .slice _ _ _), (2, .int .i64 _), (3, .func _ _ _), (4, .slice _ _ _), (7, .map _)]) (vs := [_, _, _, _, _, _, _, _, _, _, _, _, _, _, _]) [.int .i64 0, .slice none 0 0, .int .i64 0, .nilFunc, .slice none 0 0, .slice none 0 0, .slice none 0 0, .slice none 0 0, .slice none 0 0, .slice none 0 0, .slice none 0 0, .slice none 0 0, .slice none 0 0, .slice none 0 0, .map none] [0, 1, 2, 3, 4, 14] rfl rfl rfl (fun _ => by kernel_rfl)) ?_
 refine J7 (u := .agg _) (vs := #[_, _, _, _, _, _, _, _, _, _, _, _, _, _, _]) hI rfl rfl rfl rfl rfl rfl ?_
 clear hI; rintro b31 w - - hI
 refine Af rfl rfl rfl (by exact Z7 rfl rfl) ?_
 refine Aa ?_
 have hI' := hI
 rw [Mf] at hI'
 replace hI : Inv (fun _ => False) w0 w [A9 0 (fun j => StE ((fun _ => (none, 0) : Loc) j).1 ((fun _ => (none, 0) : Loc) j).2 (Bl o)), B b31 71 (Ew o A l.length c bn f b28 b29 (PP (fun _ => (none, 0)) 0) (stK o 0) none 0 0), B b28 4 (BJ l.length (fun _ => false)), StE none 0 [], Fb b29 [], B b8 26 #[.int .i64 0, .slice none 0 0, .int .i64 0]] := by
  have h1 := (hI'.sw1).fresh (e := StE none 0 []) (Pure.refl w) (Row.nil w 0 3 1) (fun k hk => by cases hk)
  exact h1.sw0.sw1.many_nil _
 clear hI'
 refine Bw (fun ρ w => ∃ L : Loc, Has ρ [(0, .int .i64 o), (11, .pointer (some ⟨b31, 0, none⟩)), (8, .pointer (some ⟨b8, 0, none⟩))] ∧ Inv (fun _ => False) w0 w [A9 8 (fun j => StE (L j).1 (L j).2 (Bl o)), B b31 71 (Ew o A l.length c bn f b28 b29 (PP L 8) (stK o 8) none 0 0), B b28 4 (BJ l.length (fun _ => false)), StE none 0 [], Fb b29 [], B b8 26 #[.int .i64 0, .slice none 0 0, .int .i64 0]]) ?_ ?_
 ·refine Ac (Ab (V0 rfl (Aa (Am ?_))))
  refine BS (fun mu ρ w => ∃ (k : Nat) (L : Loc), mu = 8 - k ∧ k ≤ 8 ∧ Has ρ [(32, .int .i64 (k : Int)), (0, .int .i64 o), (11, .pointer (some ⟨b31, 0, none⟩)), (8, .pointer (some ⟨b8, 0, none⟩))] ∧ Inv (fun _ => False) w0 w [A9 k (fun j => StE (L j).1 (L j).2 (Bl o)), B b31 71 (Ew o A l.length c bn f b28 b29 (PP L k) (stK o k) none 0 0), B b28 4 (BJ l.length (fun _ => false)), StE none 0 [], Fb b29 [], B b8 26 #[.int .i64 0, .slice none 0 0, .int .i64 0]]) 8
   ⟨0, _, rfl, by omega, ⟨rfl, rfl, rfl, rfl, trivial⟩, hI⟩ ?_
  clear hI
  rintro mu ρ w ⟨k, L, rfl, hk8, hH, hI⟩
  obtain ⟨σ, rfl⟩ := hH.open
  by_cases hk : k < 8
  rotate_left
  ·obtain rfl : k = 8 := by omega
   refine Ac (Ab (Vp rfl (Aa (Ac (Ad false rfl ?_)))))
   refine BL ?_
   exact ⟨L, ⟨rfl, rfl, rfl, trivial⟩, hI⟩
  refine Ac (Ab (Vs rfl (Aa (Ac (Ad true rfl (Ah (Ac (Am (Ac (Ab (V0 rfl (V8 rfl (Aa ?_)))))))))))))
  refine BH (by kernel_rfl) ?_
  refine BI (T := [7]) hI.drew ?_
  intro Sx hSx hXS
  replace hI := hI.drew
  refine T3 0 (hXS _ hI) rfl (Vu 1 (hXS _ hI) rfl (Vu 2 (hXS _ hI) rfl (T9 4 (hXS _ hI) rfl (Vq 5 6 (hXS _ hI) rfl (V3 3 rfl ?_)))))
  refine Va [.int .i64 _] rfl Tryd.func20 rfl ?_
  refine (M7 o _).mono ?_
  rintro e w1 ⟨A1, c1, rfl, hT⟩
  refine ⟨_, rfl, ?_⟩
  replace hI := hI.app1 hT
  refine Aa ⟨hXS _ hI.d0, ?_⟩
  refine Ae 6 rfl rfl (by kernel_rfl) (hXS _ hI.d0) rfl (fun W hW => have hI := hSx W hW; (F5 (sz := 1) (i := k) rfl Tryd.underlying69 (by kernel_rfl) rfl rfl rfl hk)) ?_
  refine Ca (by kernel_rfl) ?_
  clear hXS hSx
  refine Iy 7 rfl (by kernel_rfl) ?_
  refine H5 2 rfl (u := .slice A1 (Bl o).length c1) (j := 6 + k * 1) hI rfl rfl rfl rfl rfl rfl (by kernel_rfl) rfl (by simp [Nat.blt, Ew]; omega) rfl ?_
  clear hI; intro w hI
  simp only [List.set_cons_succ, List.set_cons_zero] at hI
  rw [Nat.mul_one, Lh hk, UD, TL] at hI
  refine Aa ?_
  refine Iz (by kernel_rfl) ?_
  replace hI := (hI.many_push).many_congr (es' := fun j => StE (DF L k A1 c1 j).1 (DF L k A1 c1 j).2 (Bl o)) (fun j hj => by
   unfold DF
   by_cases hjk : j = k
   ·rw [if_pos hjk, if_pos hjk]
   ·rw [if_neg hjk, if_neg hjk])
  refine Ab (Vd rfl (V0 rfl (Aa ?_)))
  exact ⟨8 - (k + 1), by omega, k + 1, _, rfl, by omega, ⟨rfl, rfl, rfl, rfl, trivial⟩, hI⟩
 clear hI
 rintro ρ w ⟨L, hH, hI⟩
 obtain ⟨σ, rfl⟩ := hH.open
 generalize hL8 : PP L 8 = L8 at hI
 generalize hvb : B b8 26 #[.int .i64 0, .slice none 0 0, .int .i64 0] = VB at hI
 have hlen0 : DZ l.length (Bn o).dn = l.length := H9 l.length
 have hcall : ∀ (W : World) (H : List Ent), Inv (fun _ => False) w0 W (prt b31 o A l.length c bn f b28 b29 L8 (Bn o) none 0 ++ A9 8 (fun j => StE (L j).1 (L j).2 (Bl o)) :: H) → Calls Tryd.prog 21 #[.pointer (some ⟨b31, 0, none⟩)] W fun en w' => ∃ L' A'' c'', en = .returned (.int .i64 (Be o l ab bn).1) ∧ Inv (fun _ => False) w0 w' (prt b31 o A l.length c bn f b28 b29 L' (Be o l ab bn).2 A'' c'' ++ A9 8 (fun j => StE (L j).1 (L j).2 (Bl o)) :: H) := by
  intro W H hI
  have hIm := hI.perm (List.perm_middle)
  have hst : Mo W (prt b31 o A l.length c bn f b28 b29 L8 (Bn o) none 0) L8 (Bn o).sts := by
   intro j hj
   have e1 : L8 j = L j := by rw [← hL8]; unfold PP; rw [if_pos hj]
   have e2 : (Bn o).sts j = Bl o := by unfold Bn; exact if_pos hj
   rw [e1, e2]
   exact (A9.rd (st := Bl o) hIm hj rfl).mono fun _ hb => DL.mono (fun e he => List.mem_append_left _ he) hb
  obtain ⟨hk1, hk2⟩ := hI.kn0 hk
  have ho1 := hI.all0 h (by decide)
  have hsub : ∀ e ∈ prt b31 o A l.length c bn f b28 b29 L8 (Bn o) none 0, e ∈ prt b31 o A l.length c bn f b28 b29 L8 (Bn o) none 0 ++ A9 8 (fun j => StE (L j).1 (L j).2 (Bl o)) :: H := fun e he => List.mem_append_left _ he
  refine (TR o b31 b28 b29 f A c l ab bn hA hf h40 (by omega) (l.length + 1) (Bn o) L8 none 0 W (by omega) (Ko o l.length) (by rw [hlen0]; simp [Bn]; omega) (Nat.zero_le _) hI.from (ho1.mono fun _ hb => DL.mono hsub hb) hk1 (DL.mono hsub hk2) hst).mono ?_
  rintro e w' ⟨L', A'', c'', rfl, hT, _⟩
  exact ⟨L', A'', c'', rfl, hI.turnL hT⟩
 have hcall1 : ∀ (W : World) (e : Ent), Inv (fun _ => False) w0 W (e :: (prt b31 o A l.length c bn f b28 b29 L8 (Bn o) none 0 ++ [A9 8 (fun j => StE (L j).1 (L j).2 (Bl o)), VB])) → Calls Tryd.prog 21 #[.pointer (some ⟨b31, 0, none⟩)] W fun en w' => ∃ L' A'' c'', en = .returned (.int .i64 (Be o l ab bn).1) ∧ Inv (fun _ => False) w0 w' (e :: (prt b31 o A l.length c bn f b28 b29 L' (Be o l ab bn).2 A'' c'' ++ [A9 8 (fun j => StE (L j).1 (L j).2 (Bl o)), VB])) := by
  intro W e hI
  have pm : ∀ l : List Ent, (e :: (l ++ [A9 8 (fun j => StE (L j).1 (L j).2 (Bl o)), VB])).Perm (l ++ A9 8 (fun j => StE (L j).1 (L j).2 (Bl o)) :: [VB, e]) := fun l => by
   have h1 : (e :: (l ++ [A9 8 (fun j => StE (L j).1 (L j).2 (Bl o)), VB])).Perm ((l ++ [A9 8 (fun j => StE (L j).1 (L j).2 (Bl o)), VB]) ++ [e]) := (List.perm_append_singleton _ _).symm
   rwa [List.append_assoc] at h1
  refine (hcall W [VB, e] (hI.perm (pm _))).mono ?_
  rintro en w' ⟨L', A'', c'', rfl, hT⟩
  exact ⟨L', A'', c'', rfl, hT.perm (pm _).symm⟩
 replace hI : Inv (fun _ => False) w0 w (prt b31 o A l.length c bn f b28 b29 L8 (Bn o) none 0 ++ A9 8 (fun j => StE (L j).1 (L j).2 (Bl o)) :: [VB]) := hI.perm (List.perm_middle (l₁ := [_, _, _, _])).symm
 refine Bw (fun ρ w => ∃ (b13 : Nat) (L' : Loc) (A'' : Option Addr) (c'' : Nat), Has ρ [(11, .pointer (some ⟨b31, 0, none⟩)), (8, .pointer (some ⟨b8, 0, none⟩)), (13, .pointer (some ⟨b13, 0, none⟩))] ∧ Inv (fun _ => False) w0 w (B b13 26 #[.int .i64 (Be o l ab bn).1, .slice none 0 0, .int .i64 ((Be o l ab bn).2.ent.length : Int)] :: (prt b31 o A l.length c bn f b28 b29 L' (Be o l ab bn).2 A'' c'' ++ [A9 8 (fun j => StE (L j).1 (L j).2 (Bl o)), VB]))) ?_ ?_
 ·refine BH (by kernel_rfl) ?_
  refine BI (T := [9]) hI.mapE.drew ?_
  intro Sx hSx hXS
  replace hI := hI.drew
  refine T3 0 (hXS _ hI.mapE) rfl (T3 2 (hXS _ hI.mapE) rfl (T9 3 (hXS _ hI.mapE) rfl (Vq 4 14 (hXS _ hI.mapE) rfl (Vi 5 (.map _) (hXS _ hI.mapE) rfl (fun W hW => (hSx W hW).g0) ?_))))
  refine T1 1 8 rfl ?_ ?_
  ·refine Va [.pointer _] rfl Tryd.func21 rfl ?_
   refine (hcall _ [VB] hI).mono ?_
   rintro e w1 ⟨L', A'', c'', rfl, hT⟩
   refine ⟨_, rfl, ?_⟩
   clear hI
   have hI := hT
   refine Aa ⟨hXS _ hI.mapE, ?_⟩
   refine T1 6 8 rfl ?_ ?_
   ·refine Af rfl rfl rfl (I1 rfl Tryd.underlying68 rfl (by exact hI.g3)) ?_
    refine Aa ⟨hXS _ hI.mapE, ?_⟩
    refine Ae 7 rfl rfl (by kernel_rfl) (hXS _ hI.mapE) rfl (fun W hW => have hI := hSx W hW; (EX (qs := [(0, .int .i64 _), (2, .int .i64 _)]) (vs := [_, _, _]) [.int .i64 0, .slice none 0 0, .int .i64 0] [0, 2] rfl rfl rfl (fun _ => by kernel_rfl))) ?_
    refine V3 8 rfl ?_
    refine Vt (.agg #[.int .i64 0, .slice none 0 0, .int .i64 0]) (#[.int .i64 0, .slice none 0 0, .int .i64 0]) hI rfl ?_
    clear hI; rintro b13 w - - hI
    refine Aa ⟨hXS _ hI.d0.mapE, ?_⟩
    refine Ca (by kernel_rfl) ?_
    clear hXS hSx
    refine Iy 9 rfl (by kernel_rfl) ?_
    refine Vx 3 (#[_, _, _]) (.agg _) hI rfl ?_
    clear hI; intro w hI
    refine Aa ?_
    refine Iz (by kernel_rfl) ?_
    exact ⟨_, _, _, _, ⟨rfl, rfl, rfl, trivial⟩, hI⟩
   ·refine Vt (.agg #[.int .i64 0, .slice none 0 0, .int .i64 0]) (#[.int .i64 0, .slice none 0 0, .int .i64 0]) hI rfl ?_
    clear hI; rintro b13 w - - hI
    refine Aa ⟨hXS _ hI.d0.mapE, ?_⟩
    refine V3 6 rfl ?_
    refine Af rfl rfl rfl (I1 rfl Tryd.underlying68 rfl (by exact hI.g4)) ?_
    refine Aa ⟨hXS _ hI.d0.mapE, ?_⟩
    refine Ae 7 rfl rfl (by kernel_rfl) (hXS _ hI.d0.mapE) rfl (fun W hW => have hI := hSx W hW; (EX (qs := [(0, .int .i64 _), (2, .int .i64 _)]) (vs := [_, _, _]) [.int .i64 0, .slice none 0 0, .int .i64 0] [0, 2] rfl rfl rfl (fun _ => by kernel_rfl))) ?_
    refine Ca (by kernel_rfl) ?_
    clear hXS hSx
    refine Iy 9 rfl (by kernel_rfl) ?_
    refine Vx 3 (#[_, _, _]) (.agg _) hI rfl ?_
    clear hI; intro w hI
    refine Aa ?_
    refine Iz (by kernel_rfl) ?_
    exact ⟨_, _, _, _, ⟨rfl, rfl, rfl, trivial⟩, hI⟩
  ·refine Vt (.agg #[.int .i64 0, .slice none 0 0, .int .i64 0]) (#[.int .i64 0, .slice none 0 0, .int .i64 0]) hI rfl ?_
   clear hI; rintro b13 w - - hI
   refine Aa ⟨hXS _ hI.d0.mapE, ?_⟩
   refine V3 1 rfl ?_
   refine Va [.pointer _] rfl Tryd.func21 rfl ?_
   refine (hcall1 _ _ hI).mono ?_
   rintro e w1 ⟨L', A'', c'', rfl, hT⟩
   refine ⟨_, rfl, ?_⟩
   clear hI
   have hI := hT
   refine Aa ⟨hXS _ hI.d0.mapE, ?_⟩
   refine V3 6 rfl ?_
   refine Af rfl rfl rfl (I1 rfl Tryd.underlying68 rfl (by exact hI.g4)) ?_
   refine Aa ⟨hXS _ hI.d0.mapE, ?_⟩
   refine Ae 7 rfl rfl (by kernel_rfl) (hXS _ hI.d0.mapE) rfl (fun W hW => have hI := hSx W hW; (EX (qs := [(0, .int .i64 _), (2, .int .i64 _)]) (vs := [_, _, _]) [.int .i64 0, .slice none 0 0, .int .i64 0] [0, 2] rfl rfl rfl (fun _ => by kernel_rfl))) ?_
   refine Ca (by kernel_rfl) ?_
   clear hXS hSx
   refine Iy 9 rfl (by kernel_rfl) ?_
   refine Vx 3 (#[_, _, _]) (.agg _) hI rfl ?_
   clear hI; intro w hI
   refine Aa ?_
   refine Iz (by kernel_rfl) ?_
   exact ⟨_, _, _, _, ⟨rfl, rfl, rfl, trivial⟩, hI⟩
 clear hI hcall hcall1
 rintro ρ w ⟨b13, L', A'', c'', hH, hI⟩
 obtain ⟨σ, rfl⟩ := hH.open
 subst hvb
 generalize hR : Be o l ab bn = R at hI
 obtain ⟨z, s'⟩ := R
 simp only at hI
 replace hI : Inv (fun _ => False) w0 w [B b13 26 #[.int .i64 z, .slice none 0 0, .int .i64 (s'.ent.length : Int)], B b31 71 (Ew o A l.length c bn f b28 b29 L' s'.sts A'' s'.ord.length c''), B b28 4 (BJ l.length s'.dn), StE A'' c'' s'.ord, Fb b29 s'.ent, A9 8 (fun j => StE (L j).1 (L j).2 (Bl o)), B b8 26 #[.int .i64 0, .slice none 0 0, .int .i64 0]] := hI
 have hres : ∀ (A3 : Option Addr) (c3 : Nat) (W : World), Inv (fun _ => False) w0 W [StE A3 c3 (if z = 1 then s'.ord else [])] → FW o l ab ((bn : Nat) : Int) w0 (.returned (.tuple #[.agg #[.int .i64 z, .slice A3 (if z = 1 then s'.ord else []).length c3, .int .i64 (s'.ent.length : Int)], .nilIface])) W := by
  intro A3 c3 W hI
  refine .inl ⟨hok, A3, c3, ?_⟩
  rw [Int.toNat_natCast, hR]
  exact ⟨rfl, hI⟩
 by_cases hz : z = 1
 ·refine Ac (Ac (Ab (V7 0 rfl (V2 (.int .i64 _) rfl (hI.c0 rfl) (Vy rfl (Aa (Ad true rfl (Ab (T8 rfl (Td rfl (V7 5 rfl (V2 (.slice _ _ _) rfl (hI.c1 rfl) (V7 1 rfl ?_)))))))))))))
  refine Rz (u := .slice _ _ _) hI rfl rfl rfl rfl rfl rfl (by kernel_rfl) rfl rfl rfl ?_
  clear hI; intro w hI
  refine Aa (Ac (Ab (Tn 3 rfl hI.g0 ?_)))
  refine Sn (u := .agg _) (vs := #[_, _, _]) (n := 3) hI rfl rfl rfl rfl rfl rfl (by kernel_rfl) rfl rfl rfl ?_
  clear hI; intro w hI
  refine Vz rfl (Aa ?_)
  refine Aj ?_
  refine Kk (n := 3) (t := 26) (.inr rfl) rfl rfl (by kernel_rfl) (by kernel_rfl) rfl hI.g6 ?_
  rw [if_pos hz] at hres
  exact hres _ _ _ hI.d6.d5.d4.d2.d1.d0
 ·refine Ac (Ac (Ab (V7 0 rfl (V2 (.int .i64 _) rfl (hI.c0 rfl) (Vh rfl (Aa (Ad false rfl (Ah (Ac (Ab (Tn 3 rfl hI.g0 ?_)))))))))))
  refine Sn (u := .agg _) (vs := #[_, _, _]) (n := 3) hI rfl rfl rfl rfl rfl rfl (by kernel_rfl) rfl rfl rfl ?_
  clear hI; intro w hI
  refine Vz rfl (Aa ?_)
  refine Aj ?_
  refine Kk (n := 3) (t := 26) (.inr rfl) rfl rfl (by kernel_rfl) (by kernel_rfl) rfl hI.g6 ?_
  rw [if_neg hz] at hres
  have h1 : Inv (fun _ => False) w0 w [] := hI.d6.d5.d4.d3.d2.d1.d0
  exact hres none 0 _ (h1.fresh (Pure.refl w) (Row.nil w 0 3 1) (fun k hk => by cases hk))
theorem Jl : O3 13 Br := ⟨⟨_, Tryd.func13, rfl, rfl⟩, Ir⟩
theorem WZ (o : Int) (A : Option Addr) (n c : Nat) (l : List Op8) (bud : Int) (D : Nat → Prop) (w0 : World) (h : BX w0 D (.slice A n c) l) (hk : Dm w0) :
  Calls Tryd.prog 6 #[.int .i64 o, .slice A n c, .int .i64 bud] w0 (FW o l Br bud w0) := by
 have hI := Inv.start (fun _ => False) w0
 refine Vv Tryd.f6.ntmps Tryd.func6 rfl ?_
 refine Ac (Ab (Vt (.agg #[.int .i64 0, .slice none 0 0, .int .i64 0]) (#[.int .i64 0, .slice none 0 0, .int .i64 0]) hI rfl ?_))
 clear hI; rintro b6 w - - hI
 refine Vz rfl (Aa ?_)
 by_cases hok : Bh o l bud
 ·refine Ac (Ab (V0 rfl (V9 rfl (V0 rfl (Va [.int .i64 _, .slice _ _ _, .int .i64 _, .func _ _ _] rfl Tryd.func12 rfl ?_)))))
  refine (IJ o A n c l bud _ Br D _ (h.pure hI.pu) (hk.pure hI.pu) Jl).mono ?_
  rintro e w1 (⟨_, A', c', rfl, hT⟩ | ⟨h1, _⟩)
  rotate_left
  ·exact absurd hok h1
  refine ⟨_, rfl, ?_⟩
  replace hI := hI.app1 hT
  refine Vl rfl (Vl rfl ?_)
  refine YR (u := .agg _) (vs := #[_, _, _]) (n := 3) hI rfl rfl rfl rfl rfl rfl (by kernel_rfl) rfl rfl rfl ?_
  clear hI; intro w hI
  refine Vz rfl (Aa ?_)
  refine Aj ?_
  refine Kk (n := 3) (t := 26) (.inr rfl) rfl rfl (by kernel_rfl) (by kernel_rfl) rfl hI.g1 ?_
  exact .inl ⟨hok, A', c', rfl, hI.d1⟩
 ·refine Ac (Ab (V0 rfl (V9 rfl (V0 rfl (Va [.int .i64 _, .slice _ _ _, .int .i64 _, .func _ _ _] rfl Tryd.func12 rfl ?_)))))
  refine (IJ o A n c l bud _ Br D _ (h.pure hI.pu) (hk.pure hI.pu) Jl).mono ?_
  rintro e w1 (⟨h1, _⟩ | ⟨_, ⟨z, hz, rfl⟩, hp⟩)
  ·exact absurd h1 hok
  refine ⟨_, rfl, ?_⟩
  replace hI := hI.pure hp
  refine Vl rfl (Vl rfl (Vx 3 (#[_, _, _]) (.agg _) hI rfl ?_))
  clear hI; intro w hI
  refine T6 rfl (Aa ?_)
  refine Aj ?_
  refine Kk (n := 3) (t := 26) (.inr rfl) rfl rfl (by kernel_rfl) (by kernel_rfl) rfl hI.g0 ?_
  exact .inr ⟨hok, ⟨z, hz, rfl⟩, hI.pu⟩
theorem Ji (o : Int) (A : Option Addr) (n c : Nat) (l : List Op8) (bud : Int) (D : Nat → Prop) (w0 : World) (h : BX w0 D (.slice A n c) l) (hk : Dm w0) :
  Calls Tryd.prog 6 #[.int .i64 o, .slice A n c, .int .i64 bud] w0 (Jr o l Br bud w0) :=
 (WZ o A n c l bud D w0 h hk).mono fun _ _ hh => hh.any
section
variable {S : Nat → Prop} {w0 w : World} {H : List Ent} {e : Ent}
theorem Nk : ∀ (H : List Ent) (i : Nat) (e : Ent), H[i]? = some e → H.Perm (e :: H.eraseIdx i)
 | [], i, e, h => by simp at h
 | a :: H, 0, e, h => by
  simp at h
  subst h
  exact .refl _
 | a :: H, i + 1, e, h => by
  have := Nk H i e (by simpa using h)
  rw [List.eraseIdx_cons_succ]
  exact (this.cons a).trans (.swap ..)
theorem Inv.pull (h : Inv S w0 w H) (i : Nat) (hi : H[i]? = some e) : Inv S w0 w (e :: H.eraseIdx i) := h.perm (Nk H i e hi)
def Aai : Nat → List Ent → Ent → List Ent
 | 0, L, e => e :: L
 | _ + 1, [], e => [e]
 | i + 1, a :: L, e => a :: Aai i L e
theorem NA : ∀ (i : Nat) (L : List Ent) (e : Ent), (e :: L).Perm (Aai i L e)
 | 0, L, e => .refl _
 | i + 1, [], e => .refl _
 | i + 1, a :: L, e => (List.Perm.swap ..).trans ((NA i L e).cons a)
def Zj (L : List Ent) (i : Nat) (e : Ent) : List Ent := Aai i L e
theorem Rj (L : List Ent) (i : Nat) (e : Ent) : (e :: L).Perm (Zj L i e) := NA i L e
theorem Inv.back (h : Inv S w0 w (e :: H)) (i : Nat) : Inv S w0 w (Zj H i e) := h.perm (Rj H i e)
end
section
variable {P : Program} {ρ : Env} {w : World} {o : Oper} {x y : Operand} {t t' el : TypeId} {a : Addr}
end
section
variable {S : Nat → Prop} {w0 w w' : World} {H : List Ent}
end
end Go.Proofs.YtkkmokodaejheaaDoor
