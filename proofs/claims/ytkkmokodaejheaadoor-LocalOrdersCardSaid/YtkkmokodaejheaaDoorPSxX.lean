/- Texts of the proof, merged: Lin8, Lin9, Lin10, SxX. -/
import Derived.Test.YtkkmokodaejheaaDoorPLin7
import Derived.Test.YtkkmokodaejheaaDoorPStr1
set_option linter.unusedVariables false
set_option linter.unusedSimpArgs false
set_option linter.unusedSectionVars false
namespace Go.Proofs.YtkkmokodaejheaaDoor
open Go.RowKit
section
variable {P : Program} {ρ : Env} {oo : Oper} {w : World} {x y : Operand} {t kt et b : Nat} {ks : List (List Nat)} {a : List Nat}
theorem Xa (h : a ∈ ks) (ho : oo.op = .lookup t x y true) (ht : P.underlying t = some (.map kt et)) (hk : P.underlying kt = some .string) (hz : (P.info? et).bind (·.zero) = some (.agg #[])) (hx : ev ρ x = .map (some b)) (hy : ev ρ y = .string (EE a)) (ha : ∀ c ∈ a, c < 256) (hM : J6 w b ks) : Ar P ρ oo w (.tuple #[.agg #[], .bool true]) := by
 have := Ul (P := P) ho ht hk hz hx hy ha hM
 rwa [decide_eq_true h] at this
theorem Xb (h : a ∉ ks) (ho : oo.op = .lookup t x y true) (ht : P.underlying t = some (.map kt et)) (hk : P.underlying kt = some .string) (hz : (P.info? et).bind (·.zero) = some (.agg #[])) (hx : ev ρ x = .map (some b)) (hy : ev ρ y = .string (EE a)) (ha : ∀ c ∈ a, c < 256) (hM : J6 w b ks) : Ar P ρ oo w (.tuple #[.agg #[], .bool false]) := by
 have := Ul (P := P) ho ht hk hz hx hy ha hM
 rwa [decide_eq_false h] at this
end
theorem TJ {o : Int} {A : Option Addr} {n c bud f db eb : Nat} {L : Loc} {sts : Nat → List Int} {A' : Option Addr} {m c' : Nat} {k : Nat} (hk : k < 8) : (Ej o A n c bud f db eb L sts A' m c')[6 + k * 1]? = some (.slice (L k).1 (sts k).length (L k).2) := by
 rw [Nat.mul_one]
 exact Q5 hk
theorem J3 {n : Nat} (f : Nat → Bool) (u : Nat) (b : Bool) : (BD n f).setIfInBounds u (.bool b) = BD n (BM f u b) := Ng f u b
def Dj (o : Int) (sb db eb f : Nat) (A : Option Addr) (c : Nat) (l : List Op8) (ab : Op8 → Op8 → Bool) (bud : Nat) (fu : Nat) (s : SSt) (L : Loc) (l0 : List Ent) (w0 : World) (en : Ending) (w' : World) : Prop :=
 ∃ L' A'' c'', en = .returned (.int .i64 (AX o l ab bud fu s).1) ∧ Inv (DL l0) w0 w' (prt sb o A l.length c bud f db eb L' (AX o l ab bud fu s).2 A'' c'') ∧ ((AX o l ab bud fu s).1 = 2 → L' = L)
theorem Dj.same {o : Int} {sb db eb f : Nat} {A : Option Addr} {c : Nat} {l : List Op8} {ab : Op8 → Op8 → Bool} {bud : Nat} {fu : Nat} {s : SSt} {L : Loc} {l0 : List Ent} {w0 w' : World} {z : Int} {A' : Option Addr} {c' : Nat} (h : AX o l ab bud fu s = (z, s)) (hI : Inv (DL l0) w0 w' (prt sb o A l.length c bud f db eb L s A' c')) : Dj o sb db eb f A c l ab bud fu s L l0 w0 (.returned (.int .i64 z)) w' := by
 unfold Dj
 rw [h]
 exact ⟨L, A', c', rfl, hI, fun _ => rfl⟩
theorem Dj.mk {o : Int} {sb db eb f : Nat} {A : Option Addr} {c : Nat} {l : List Op8} {ab : Op8 → Op8 → Bool} {bud : Nat} {fu : Nat} {s s' : SSt} {L L' : Loc} {l0 : List Ent} {w0 w' : World} {z : Int} {A' : Option Addr} {c' : Nat} (h : AX o l ab bud fu s = (z, s')) (hI : Inv (DL l0) w0 w' (prt sb o A l.length c bud f db eb L' s' A' c')) (hL : z = 2 → L' = L) : Dj o sb db eb f A c l ab bud fu s L l0 w0 (.returned (.int .i64 z)) w' := by
 unfold Dj
 rw [h]
 exact ⟨L', A', c', rfl, hI, hL⟩
theorem Qm {n k : Nat} (h : k < n) : (List.range n).drop k = k :: (List.range n).drop (k + 1) := by
 rw [List.drop_eq_getElem_cons (by simpa using h)]
 simp
theorem Py {l : List Op8} {dn : Nat → Bool} : Zx l dn ↔ GN l dn = true := by
 unfold Zx GN
 simp only [List.all_eq_true, List.mem_range, Bool.or_eq_true, Bool.not_eq_true', decide_eq_false_iff_not]
 refine ⟨fun h i hi => ?_, fun h i hi hr => ?_⟩
 ·by_cases h0 : 0 ≤ (oAt l i).ret
  ·exact .inr (h i hi h0)
  ·exact .inl h0
 ·rcases h i hi with h1 | h1
  ·exact absurd hr h1
  ·exact h1
theorem ML {l : List Op8} {ab : Op8 → Op8 → Bool} {dn : Nat → Bool} {i : Nat} : UN l ab dn i ↔ Fz l ab dn i = true := by
 unfold UN Fz
 simp only [List.all_eq_true, List.mem_range, Bool.and_eq_true, Bool.or_eq_true, Bool.not_eq_true', beq_iff_eq]
 refine ⟨fun h => ⟨h.1, fun k hk => ?_⟩, fun h => ⟨h.1, fun k hk hki hd => ?_⟩⟩
 ·by_cases hki : k = i
  ·exact .inl (.inl hki)
  ·cases hd : dn k with
   | true => exact .inl (.inr rfl)
   | false => exact .inr (h.2 k hk hki hd)
 ·rcases h.2 k hk with (h1 | h1) | h1
  ·exact absurd h1 hki
  ·rw [hd] at h1; cases h1
  ·exact h1
theorem IU {b : Bool} {p : Prop} {c : Bool} (h : b = true ↔ p) (h2 : p ↔ c = true) : b = c := by
 have h := h.trans h2
 cases b <;> cases c <;> simp at h ⊢
set_option maxHeartbeats 8000000 in
theorem Su (o : Int) (sb db eb f : Nat) (A : Option Addr) (c : Nat) (l : List Op8) (ab : Op8 → Op8 → Bool) (bud : Nat) (hA : Gv l) (hf : Oj f ab) (h40 : l.length ≤ 40) (hbud : bud ≤ 1000000) :
  ∀ (fu : Nat) (s : SSt) (L : Loc) (A' : Option Addr) (c' : Nat) (w0 : World), Ei l.length s.dn < fu → GoodS o l.length s.dn s.sts → s.ord.length + Ei l.length s.dn ≤ 40 → s.ent.length ≤ bud →
   Inv (DL (prt sb o A l.length c bud f db eb L s A' c')) w0 w0 (prt sb o A l.length c bud f db eb L s A' c') →
   BK w0 (fun b => ¬ DL (prt sb o A l.length c bud f db eb L s A' c') b) (.slice A l.length c) l → Dq w0 → ¬ DL (prt sb o A l.length c bud f db eb L s A' c') 0 → LD w0 (prt sb o A l.length c bud f db eb L s A' c') L s.sts →
   Calls Tryd.prog 21 #[.pointer (some ⟨sb, 0, none⟩)] w0 (Dj o sb db eb f A c l ab bud fu s L (prt sb o A l.length c bud f db eb L s A' c') w0) := by
 intro fu
 induction fu with
 | zero => intro s L A' c' w0 h; omega
 | succ fu ih =>
 intro s L A' c' w0 hu hG hord hent hI hops hkn hkg hst
 obtain ⟨dn, sts, ord, ent⟩ := s
 have hI0 := hI
 generalize hl0 : prt sb o A l.length c bud f db eb L ⟨dn, sts, ord, ent⟩ A' c' = l0 at hops hkg hst ⊢
 replace hI : Inv (DL l0) w0 w0 [B sb 71 (Ej o A l.length c bud f db eb L sts A' ord.length c'), B db 4 (BD l.length dn), StE A' c' ord, EN eb ent] := by rw [hl0] at hI; rw [← hl0] at hI ⊢; exact hI
 have nops : ∀ {w : World} {H : List Ent}, Inv (DL l0) w0 w H → BK w (fun b => ¬ DL H b) (.slice A l.length c) l := fun hI => Rd.now hI hops (by decide)
 have nkn : ∀ {w : World} {H : List Ent}, Inv (DL l0) w0 w H → Dq w := fun hI => (QC hI hkn hkg).1
 have hi64 := hG.i64
 have hol : ord.length ≤ 40 := by simp only at hord; omega
 have hlen : ∀ k, (sts k).length ≤ 41 := fun k => by
  have h1 := hG.len k
  have h2 := Lm l.length dn
  simp only at h1
  omega
 refine Vx Tryd.f21.ntmps Tryd.func21 rfl ?_
 refine Ac (Ab (V9 rfl (Aa ?_)))
 cases hall : GN l dn with
 | true =>
  refine Ac (Ac (Ab (T8 rfl (Va [.pointer _] rfl Tryd.func44 rfl ?_))))
  refine (OE sb A c l db dn _ _ (nops hI) (hI.c0 rfl) (hI.c0 rfl) hI.g1 (by omega)).mono ?_
  rintro e w1 ⟨⟨b, rfl, hb⟩, hp⟩
  obtain rfl : b = true := (IU hb Py).trans hall
  refine ⟨_, rfl, ?_⟩
  replace hI := hI.pure hp
  refine Aa (Ad true rfl (Ac (Ab (V9 rfl (Aa ?_)))))
  refine Aj ?_
  exact Bw 2 (.inr rfl) rfl (Dj.same (Hu hall) hI)
 | false =>
 refine Ac (Ac (Ab (T8 rfl (Va [.pointer _] rfl Tryd.func44 rfl ?_))))
 refine (OE sb A c l db dn _ _ (nops hI) (hI.c0 rfl) (hI.c0 rfl) hI.g1 (by omega)).mono ?_
 rintro e w1 ⟨⟨b, rfl, hb⟩, hp⟩
 obtain rfl : b = false := (IU hb Py).trans hall
 refine ⟨_, rfl, ?_⟩
 replace hI := hI.pure hp
 refine Aa (Ad false rfl (Ah (Ac (Ab (T8 rfl (Va [.pointer _] rfl Tryd.func45 rfl ?_))))))
 refine (TY sb A c l.length db dn L sts _ (hI.c0 rfl) (hI.c0 rfl) hI.g1 (fun j u hu => ((hI.g0 : Blk _ _ _ _).cell _).trans (TH hu)) (fun k hk => (hst.now hI k hk).mono fun _ _ => trivial) (by omega) hi64 (fun k => by have := hlen k; omega)).mono ?_
 rintro e w2 ⟨rfl, hp⟩
 refine ⟨_, rfl, ?_⟩
 replace hI := hI.pure hp
 refine Af rfl rfl rfl (by exact Iu rfl rfl) ?_
 refine Aa ?_
 have hky := La l.length dn sts
 generalize hkey : FQ l.length dn sts = ky at *
 by_cases hin : ky ∈ ent
 ·refine Ac (Ac (Ab (T8 rfl (Td rfl (V7 14 rfl (V3 (.map _) rfl (hI.c0 rfl) ?_))))))
  refine Af rfl rfl rfl (by exact KW rfl rfl) ?_
  refine Af rfl rfl rfl (Xa (a := ky) hin rfl Tryd.underlying68 Tryd.underlying9 (by kernel_rfl) rfl rfl hky hI.g3) ?_
  refine Ta rfl (Vk rfl (Vk rfl (Vw (.agg #[]) #[] hI rfl ?_)))
  clear hI; rintro b4 w - - hI
  refine Vz 0 #[] (.agg _) hI rfl ?_
  clear hI; intro w hI
  refine V6 rfl (Aa (Ac (Ab (V5 rfl (Aa (Ad true rfl (Ac (Ab (V9 rfl (Aa ?_))))))))))
  refine Aj ?_
  exact Bw 2 (.inr rfl) rfl (Dj.same (Ht hall (by rw [hkey]; exact hin)) hI.d0)
 refine Ac (Ac (Ab (T8 rfl (Td rfl (V7 14 rfl (V3 (.map _) rfl (hI.c0 rfl) ?_))))))
 refine Af rfl rfl rfl (by exact KW rfl rfl) ?_
 refine Af rfl rfl rfl (Xb (a := ky) hin rfl Tryd.underlying68 Tryd.underlying9 (by kernel_rfl) rfl rfl hky hI.g3) ?_
 refine Ta rfl (Vk rfl (Vk rfl (Vw (.agg #[]) #[] hI rfl ?_)))
 clear hI; rintro b4 w - - hI
 refine Vz 0 #[] (.agg _) hI rfl ?_
 clear hI; intro w hI
 refine V6 rfl (Aa ?_)
 replace hI := hI.d0
 refine Ac (Ab (V5 rfl (Aa (Ad false rfl (Ah ?_)))))
 by_cases hfull : ent.length = bud
 ·refine Ac (Ac (BB (by kernel_rfl) ?_))
  refine BC (T := []) hI.drew ?_
  intro Sx hSx hXS
  replace hI := hI.drew
  refine T3 0 (hXS _ hI) rfl (T9 1 (hXS _ hI) rfl (Vq 2 14 (hXS _ hI) rfl (Vh 3 (.map _) (hXS _ hI) rfl (fun W hW => (hSx W hW).c0 rfl) ?_)))
  refine Ae 4 rfl rfl (by kernel_rfl) (hXS _ hI) rfl (fun W hW => have hI := hSx W hW; (Ir rfl Tryd.underlying68 rfl hI.g3)) ?_
  refine T3 5 (hXS _ hI) rfl (T9 6 (hXS _ hI) rfl (Vq 7 2 (hXS _ hI) rfl (Vh 8 (.int .i64 _) (hXS _ hI) rfl (fun W hW => (hSx W hW).c0 rfl) ?_)))
  refine Ae 9 rfl rfl (by kernel_rfl) (hXS _ hI) rfl (fun W hW => have hI := hSx W hW; (by exact Un rfl rfl rfl (by omega))) ?_
  refine Av (by kernel_rfl) (Ad true rfl (Ac (Ab (V9 rfl (Aa ?_)))))
  refine Aj ?_
  exact Bw 2 (.inr rfl) rfl (Dj.same (Gp hall (by rw [hkey]; exact hin) hfull) hI)
 refine Ac (Ac (BB (by kernel_rfl) ?_))
 refine BC (T := []) hI.drew ?_
 intro Sx hSx hXS
 replace hI := hI.drew
 refine T3 0 (hXS _ hI) rfl (T9 1 (hXS _ hI) rfl (Vq 2 14 (hXS _ hI) rfl (Vh 3 (.map _) (hXS _ hI) rfl (fun W hW => (hSx W hW).c0 rfl) ?_)))
 refine Ae 4 rfl rfl (by kernel_rfl) (hXS _ hI) rfl (fun W hW => have hI := hSx W hW; (Ir rfl Tryd.underlying68 rfl hI.g3)) ?_
 refine T3 5 (hXS _ hI) rfl (T9 6 (hXS _ hI) rfl (Vq 7 2 (hXS _ hI) rfl (Vh 8 (.int .i64 _) (hXS _ hI) rfl (fun W hW => (hSx W hW).c0 rfl) ?_)))
 refine Ae 9 rfl rfl (by kernel_rfl) (hXS _ hI) rfl (fun W hW => have hI := hSx W hW; (by exact Uo rfl rfl rfl (by omega))) ?_
 refine Av (by kernel_rfl) (Ad false rfl (Ah (Ac (Ab (T8 rfl (Td rfl (V7 14 rfl (V3 (.map _) rfl (hI.c0 rfl) ?_))))))))
 refine Af rfl rfl rfl (by exact KW rfl rfl) ?_
 refine Af rfl rfl rfl (EI (qs := []) (vs := []) [] [] rfl rfl rfl (fun _ => by kernel_rfl)) ?_
 refine SC 3 rfl hI rfl rfl rfl Tryd.underlying68 Tryd.underlying9 rfl rfl rfl hky hin ?_
 clear hI; intro w hI
 replace hI : Inv (DL l0) w0 w [B sb 71 (Ej o A l.length c bud f db eb L sts A' ord.length c'), B db 4 (BD l.length dn), StE A' c' ord, EN eb (ent ++ [ky])] := hI
 refine Aa ?_
 have hgo : AX o l ab bud (fu + 1) ⟨dn, sts, ord, ent⟩ = Bu o l ab (AX o l ab bud fu) ((List.range l.length).drop 0) ⟨dn, sts, ord, ent ++ [ky]⟩ := by
  rw [Jv hall (by rw [hkey]; exact hin) hfull]
  unfold Gd
  rw [hkey]
  rfl
 have hent1 : (ent ++ [ky]).length ≤ bud := by simp; simp only at hent; omega
 refine Ac (Ac (Ab (T8 rfl (Td rfl (V7 1 rfl (V3 (.slice _ _ _) rfl (hI.c0 rfl) (Vi rfl Tryd.underlying22 rfl (V0 rfl (Aa (Al ?_))))))))))
 refine Ce (fun mu ρ w => ∃ (k : Nat) (en : List (List Nat)), mu = l.length - k ∧ k ≤ l.length ∧ en.length ≤ bud ∧ AX o l ab bud (fu + 1) ⟨dn, sts, ord, ent⟩ = Bu o l ab (AX o l ab bud fu) ((List.range l.length).drop k) ⟨dn, sts, ord, en⟩ ∧ (∃ A' c', Has ρ [(48, .int .i64 (k : Int)), (47, .int .i64 (l.length : Int)), (46, .slice A l.length c), (0, .pointer (some ⟨sb, 0, none⟩))] ∧ Inv (DL l0) w0 w [B sb 71 (Ej o A l.length c bud f db eb L sts A' ord.length c'), B db 4 (BD l.length dn), StE A' c' ord, EN eb en])) l.length
  ⟨0, _, rfl, by omega, hent1, hgo, _, _, ⟨rfl, rfl, rfl, rfl, trivial⟩, hI⟩ ?_
 clear hI hent1 hgo hl0
 rintro mu ρ w ⟨k, en, rfl, hk, hen, hgo, A', c', hH, hI⟩
 obtain ⟨σ, rfl⟩ := hH.open
 by_cases hkl : k < l.length
 rotate_left
 ·obtain rfl : k = l.length := by omega
  rw [List.drop_of_length_le (by simp)] at hgo
  refine Ac (Ab (Vo rfl (Aa (Ac (Ad false rfl ?_)))))
  refine BG ?_
  refine Ac (Ab (V9 rfl (Aa ?_)))
  refine Aj ?_
  exact Bw 2 (.inr rfl) rfl (Dj.mk hgo hI (fun _ => rfl))
 rw [Qm hkl] at hgo
 obtain ⟨bA, oA, rfl, hoc⟩ := (nops hI).at hkl
 have hk8 : Fe l k < 8 := hA.Fe hkl
 have hk0 := (hA.key k hkl).1
 have hkz : (oAt l k).key = ((Fe l k : Nat) : Int) := by unfold Fe; omega
 have hgoF : goF o l sts k = match BR o (sts (Fe l k)) (oAt l k).kind (oAt l k).a (oAt l k).b with
  | none => none
  | some (st', r) => if (oAt l k).ret ≠ -1 ∧ r ≠ (oAt l k).res then none else some st' := rfl
 generalize hkN : Fe l k = kN at hk8 hkz hgoF
 generalize hpk : oAt l k = pk at hoc hkz hgoF
 obtain ⟨p0, p1, p2, p3, p4, p5, p6, p7⟩ := pk
 simp only at hkz hgoF
 subst hkz
 refine Ac (Ab (Vt rfl (Aa (Ac (Ad true rfl (Ah (Ac (Al (Ac (Ab (V0 rfl (Th 8 rfl Tryd.underlying22 rfl (Tj 8 rfl (by rfl) hoc ?_)))))))))))))
 refine Vw (.agg #[.int .i64 0, .int .i64 0, .int .i64 0, .int .i64 0, .int .i64 0, .int .i64 0, .int .i64 0, .int .i64 0]) (#[.int .i64 0, .int .i64 0, .int .i64 0, .int .i64 0, .int .i64 0, .int .i64 0, .int .i64 0, .int .i64 0]) hI rfl ?_
 clear hI; rintro b7 w - - hI
 refine V9 rfl (Vz 8 (#[_, _, _, _, _, _, _, _]) (.agg _) hI rfl ?_)
 clear hI; intro w hI
 refine Aa ?_
 simp only [opV] at hI
 cases hnx : Fz l ab dn k with
 | false =>
  rw [K7 hnx] at hgo
  refine Ac (Ac (Ab (T8 rfl (V0 rfl (Va [.pointer _, .int .i64 _] rfl Tryd.func46 rfl ?_)))))
  refine (Mv sb _ c l db f ab dn k _ _ (nops hI) (hI.c1 rfl) (hI.c1 rfl) (hI.c1 rfl) hI.g2 (by omega) hkl hf).mono ?_
  rintro e w3 ⟨⟨b, rfl, hb⟩, hp⟩
  obtain rfl : b = false := (IU hb ML).trans hnx
  refine ⟨_, rfl, ?_⟩
  replace hI := hI.pure hp
  refine Tf rfl (Aa (Ad true rfl ?_))
  refine BG ?_
  replace hI := hI.d0
  refine Ab (Vb rfl (V0 rfl (Aa ?_)))
  exact ⟨l.length - (k + 1), by omega, k + 1, en, rfl, by omega, hen, hgo, A', c', ⟨rfl, rfl, rfl, rfl, trivial⟩, hI⟩
 | true =>
 refine Ac (Ac (Ab (T8 rfl (V0 rfl (Va [.pointer _, .int .i64 _] rfl Tryd.func46 rfl ?_)))))
 refine (Mv sb _ c l db f ab dn k _ _ (nops hI) (hI.c1 rfl) (hI.c1 rfl) (hI.c1 rfl) hI.g2 (by omega) hkl hf).mono ?_
 rintro e w3 ⟨⟨b, rfl, hb⟩, hp⟩
 obtain rfl : b = true := (IU hb ML).trans hnx
 refine ⟨_, rfl, ?_⟩
 replace hI := hI.pure hp
 refine T5 rfl (Aa (Ad false rfl (Ah (Ac (BB (by kernel_rfl) ?_)))))
 refine BC (T := []) hI.drew ?_
 intro Sx hSx hXS
 replace hI := hI.drew
 refine T3 0 (hXS _ hI) rfl (Vq 1 1 (hXS _ hI) rfl (Vh 2 (.int .i64 _) (hXS _ hI) rfl (fun W hW => (hSx W hW).c0 rfl) (T9 3 (hXS _ hI) rfl (Vq 4 6 (hXS _ hI) rfl ?_))))
 refine Ae 5 rfl rfl (by kernel_rfl) (hXS _ hI) rfl (fun W hW => have hI := hSx W hW; (FO (sz := 1) (i := kN) rfl Tryd.underlying69 (by kernel_rfl) rfl rfl rfl hk8)) ?_
 refine Vh 6 (.slice _ _ _) (hXS _ hI) rfl (fun W hW => have hI := hSx W hW; ((hI.g1 : Blk _ _ _ _).cell _).trans (TJ hk8)) (Tn 7 (hXS _ hI) rfl (Av (by kernel_rfl) ?_))
 have hdk : dn k = false := IE hnx
 cases hstep : BR o (sts kN) p2 p3 p4 with
 | none =>
  have hg0 : goF o l sts k = none := by rw [hgoF, hstep]
  rw [K8 hnx hg0] at hgo
  refine Ac (BB (by kernel_rfl) ?_)
  refine BC (T := []) hI.drew ?_
  intro Sx hSx hXS
  replace hI := hI.drew
  refine T3 0 (hXS _ hI) rfl (T9 1 (hXS _ hI) rfl (Vq 2 0 (hXS _ hI) rfl (Vh 3 (.int .i64 _) (hXS _ hI) rfl (fun W hW => (hSx W hW).c1 rfl) (Vv 4 (hXS _ hI) rfl (Vq 5 2 (hXS _ hI) rfl (Vh 6 (.int .i64 _) (hXS _ hI) rfl (fun W hW => (hSx W hW).c0 rfl) (Vq 7 3 (hXS _ hI) rfl (Vh 8 (.int .i64 _) (hXS _ hI) rfl (fun W hW => (hSx W hW).c0 rfl) (Vq 9 4 (hXS _ hI) rfl (Vh 10 (.int .i64 _) (hXS _ hI) rfl (fun W hW => (hSx W hW).c0 rfl) (V2 11 rfl ?_)))))))))))
  refine Va [.int .i64 _, .slice _ _ _, .int .i64 _, .int .i64 _, .int .i64 _] rfl Tryd.func42 rfl ?_
  refine (F9 o _ _ (sts kN) p2 p3 p4 _ _ (hst.now hI kN hk8) (hG.ok kN) (by have := hlen kN; omega) (nkn hI)).mono ?_
  rintro e w3 hP
  unfold Bv at hP
  rw [hstep] at hP
  obtain ⟨rfl, hp⟩ := hP
  refine ⟨_, rfl, ?_⟩
  replace hI := hI.pure hp
  refine Aa ⟨hXS _ hI, ?_⟩
  refine Ae 12 rfl rfl (by kernel_rfl) (hXS _ hI) rfl (fun W hW => have hI := hSx W hW; (by exact Qp rfl rfl)) ?_
  refine Ae 13 rfl rfl (by kernel_rfl) (hXS _ hI) rfl (fun W hW => have hI := hSx W hW; (KX rfl rfl rfl)) ?_
  refine Ae 14 rfl rfl (by kernel_rfl) (hXS _ hI) rfl (fun W hW => have hI := hSx W hW; (KX rfl rfl rfl)) ?_
  refine Ae 15 rfl rfl (by kernel_rfl) (hXS _ hI) rfl (fun W hW => have hI := hSx W hW; (KX rfl rfl rfl)) ?_
  refine Tn 16 (hXS _ hI) rfl ?_
  refine Ae 17 rfl rfl (by kernel_rfl) (hXS _ hI) rfl (fun W hW => have hI := hSx W hW; (by exact Ji rfl rfl)) ?_
  refine Ae 18 rfl rfl (by kernel_rfl) (hXS _ hI) rfl (fun W hW => have hI := hSx W hW; (by exact Jj rfl rfl)) ?_
  refine Av (by kernel_rfl) (Ac (Ac (Ab (V5 rfl (Tf rfl (V5 rfl (V4 rfl (V4 rfl (V4 rfl (V4 rfl (V4 rfl (V4 rfl (V4 rfl ?_)))))))))))))
  refine V4 rfl (V4 rfl (Vg rfl (Aa (Ad true rfl ?_))))
  refine BG ?_
  replace hI := hI.d0
  refine Ab (Vb rfl (V0 rfl (Aa ?_)))
  exact ⟨l.length - (k + 1), by omega, k + 1, en, rfl, by omega, hen, hgo, A', c', ⟨rfl, rfl, rfl, rfl, trivial⟩, hI⟩
 | some q =>
 obtain ⟨st', r⟩ := q
 refine Ac (BB (by kernel_rfl) ?_)
 refine BC (T := []) hI.drew ?_
 intro Sx hSx hXS
 replace hI := hI.drew
 refine T3 0 (hXS _ hI) rfl (T9 1 (hXS _ hI) rfl (Vq 2 0 (hXS _ hI) rfl (Vh 3 (.int .i64 _) (hXS _ hI) rfl (fun W hW => (hSx W hW).c1 rfl) (Vv 4 (hXS _ hI) rfl (Vq 5 2 (hXS _ hI) rfl (Vh 6 (.int .i64 _) (hXS _ hI) rfl (fun W hW => (hSx W hW).c0 rfl) (Vq 7 3 (hXS _ hI) rfl (Vh 8 (.int .i64 _) (hXS _ hI) rfl (fun W hW => (hSx W hW).c0 rfl) (Vq 9 4 (hXS _ hI) rfl (Vh 10 (.int .i64 _) (hXS _ hI) rfl (fun W hW => (hSx W hW).c0 rfl) (V2 11 rfl ?_)))))))))))
 refine Va [.int .i64 _, .slice _ _ _, .int .i64 _, .int .i64 _, .int .i64 _] rfl Tryd.func42 rfl ?_
 refine (F9 o _ _ (sts kN) p2 p3 p4 _ _ (hst.now hI kN hk8) (hG.ok kN) (by have := hlen kN; omega) (nkn hI)).mono ?_
 rintro e w3 hP
 unfold Bv at hP
 rw [hstep] at hP
 obtain ⟨A1, c1, rfl, hT⟩ := hP
 refine ⟨_, rfl, ?_⟩
 replace hI := hI.app1 hT
 refine Aa ⟨hXS _ hI.d0, ?_⟩
 refine Ae 12 rfl rfl (by kernel_rfl) (hXS _ hI.d0) rfl (fun W hW => have hI := hSx W hW; (by exact Qp rfl rfl)) ?_
 refine Ae 13 rfl rfl (by kernel_rfl) (hXS _ hI.d0) rfl (fun W hW => have hI := hSx W hW; (KX rfl rfl rfl)) ?_
 refine Ae 14 rfl rfl (by kernel_rfl) (hXS _ hI.d0) rfl (fun W hW => have hI := hSx W hW; (KX rfl rfl rfl)) ?_
 refine Ae 15 rfl rfl (by kernel_rfl) (hXS _ hI.d0) rfl (fun W hW => have hI := hSx W hW; (KX rfl rfl rfl)) ?_
 refine Tn 16 (hXS _ hI.d0) rfl ?_
 refine Ae 17 rfl rfl (by kernel_rfl) (hXS _ hI.d0) rfl (fun W hW => have hI := hSx W hW; (by exact Ji rfl rfl)) ?_
 refine Ae 18 rfl rfl (by kernel_rfl) (hXS _ hI.d0) rfl (fun W hW => have hI := hSx W hW; (by exact Jj rfl rfl)) ?_
 refine Av (by kernel_rfl) ?_
 by_cases hret : p7 ≠ -1 ∧ r ≠ p5
 ·have hg0 : goF o l sts k = none := by rw [hgoF, hstep]; exact if_pos hret
  rw [K8 hnx hg0] at hgo
  obtain ⟨hr1, hr2⟩ := hret
  refine Ac (Ac (Ab (V5 rfl (T5 rfl (V5 rfl (V7 7 rfl (V3 (.int .i64 _) rfl (hI.c1 rfl) (Tm rfl (V5 rfl (V0 rfl (V7 5 rfl (V3 (.int .i64 _) rfl (hI.c1 rfl) (Tm rfl ?_)))))))))))))
  refine Vg rfl (Vd rfl (Aa (Ad true rfl ?_)))
  refine BG ?_
  replace hI := hI.d0.d0
  refine Ab (Vb rfl (V0 rfl (Aa ?_)))
  exact ⟨l.length - (k + 1), by omega, k + 1, en, rfl, by omega, hen, hgo, A', c', ⟨rfl, rfl, rfl, rfl, trivial⟩, hI⟩
 have hg1 : goF o l sts k = some st' := by rw [hgoF, hstep]; exact if_neg hret
 refine Bt (fun ρ w => Has ρ [(48, .int .i64 (k : Int)), (47, .int .i64 (l.length : Int)), (46, .slice (some ⟨bA, oA, none⟩) l.length c), (0, .pointer (some ⟨sb, 0, none⟩)), (6, .int .i64 (k : Int)), (7, .pointer (some ⟨b7, 0, none⟩)), (8, .slice (L kN).1 (sts kN).length (L kN).2), (9, .slice A1 st'.length c1)] ∧ Inv (DL l0) w0 w [StE A1 c1 st', B b7 63 #[.int .i64 p0, .int .i64 (kN : Int), .int .i64 p2, .int .i64 p3, .int .i64 p4, .int .i64 p5, .int .i64 p6, .int .i64 p7], B sb 71 (Ej o (some ⟨bA, oA, none⟩) l.length c bud f db eb L sts A' ord.length c'), B db 4 (BD l.length dn), StE A' c' ord, EN eb en]) ?_ ?_
 ·by_cases h7 : p7 = -1
  ·refine Ac (Ab (V5 rfl (T5 rfl (V5 rfl (V7 7 rfl (V3 (.int .i64 _) rfl (hI.c1 rfl) (Tl rfl (V5 rfl (V4 rfl (V4 rfl (V4 rfl (V4 rfl (Vd rfl ?_)))))))))))))
   refine Vd rfl (Aa (Ad false rfl (Ah ?_)))
   exact ⟨⟨rfl, rfl, rfl, rfl, rfl, rfl, rfl, rfl, trivial⟩, hI⟩
  ·have h5 : r = p5 := by
    rcases Classical.em (r = p5) with h | h
    ·exact h
    ·exact absurd ⟨h7, h⟩ hret
   refine Ac (Ab (V5 rfl (T5 rfl (V5 rfl (V7 7 rfl (V3 (.int .i64 _) rfl (hI.c1 rfl) (Tm rfl (V5 rfl (V0 rfl (V7 5 rfl (V3 (.int .i64 _) rfl (hI.c1 rfl) (Tl rfl (Vg rfl ?_)))))))))))))
   refine Vd rfl (Aa (Ad false rfl (Ah ?_)))
   exact ⟨⟨rfl, rfl, rfl, rfl, rfl, rfl, rfl, rfl, trivial⟩, hI⟩
 clear hI
 rintro ρ w ⟨hH, hI⟩
 obtain ⟨σ, rfl⟩ := hH.open
 refine Bt (fun ρ w => Has ρ [(48, .int .i64 (k : Int)), (47, .int .i64 (l.length : Int)), (46, .slice (some ⟨bA, oA, none⟩) l.length c), (0, .pointer (some ⟨sb, 0, none⟩)), (6, .int .i64 (k : Int)), (7, .pointer (some ⟨b7, 0, none⟩)), (8, .slice (L kN).1 (sts kN).length (L kN).2)] ∧ Inv (DL l0) w0 w [StE A1 c1 st', B b7 63 #[.int .i64 p0, .int .i64 (kN : Int), .int .i64 p2, .int .i64 p3, .int .i64 p4, .int .i64 p5, .int .i64 p6, .int .i64 p7], B sb 71 (Ej o (some ⟨bA, oA, none⟩) l.length c bud f db eb (Dw L kN A1 c1) (BP sts kN st') A' ord.length c'), B db 4 (BD l.length (BM dn k true)), StE A' c' ord, EN eb en]) ?_ ?_
 ·refine BB (by kernel_rfl) ?_
  refine BC (T := [14]) hI.d3.drew ?_
  intro Sx hSx hXS
  replace hI := hI.drew
  refine T3 0 (hXS _ hI.d3) rfl (T9 1 (hXS _ hI.d3) rfl (Vq 2 4 (hXS _ hI.d3) rfl (Vh 3 (.slice _ _ _) (hXS _ hI.d3) rfl (fun W hW => (hSx W hW).c2 rfl) (Vs 4 (hXS _ hI.d3) rfl (T3 5 (hXS _ hI.d3) rfl (Vq 6 1 (hXS _ hI.d3) rfl (Vh 7 (.int .i64 _) (hXS _ hI.d3) rfl (fun W hW => (hSx W hW).c1 rfl) (Vv 8 (hXS _ hI.d3) rfl (Vl 9 (hXS _ hI.d3) rfl Tryd.underlying65 rfl (T9 11 (hXS _ hI.d3) rfl (Vq 12 6 (hXS _ hI.d3) rfl (V2 10 rfl ?_))))))))))))
  refine G5 3 rfl (u := .bool true) (j := k) hI rfl rfl rfl rfl rfl rfl (by kernel_rfl) rfl (by simp [Nat.blt, BD]; omega) rfl ?_
  clear hI; intro w hI
  simp only [List.set_cons_succ, List.set_cons_zero] at hI
  rw [J3] at hI
  refine Aa ⟨hXS _ hI.d3, ?_⟩
  refine Ae 13 rfl rfl (by kernel_rfl) (hXS _ hI.d3) rfl (fun W hW => have hI := hSx W hW; (FO (sz := 1) (i := kN) rfl Tryd.underlying69 (by kernel_rfl) rfl rfl rfl hk8)) ?_
  refine BV (by kernel_rfl) ?_
  clear hXS hSx
  refine HY 14 rfl (by kernel_rfl) ?_
  refine G5 2 rfl (u := .slice A1 st'.length c1) (j := 6 + kN * 1) hI rfl rfl rfl rfl rfl rfl (by kernel_rfl) rfl (by simp [Nat.blt, Ej]; omega) rfl ?_
  clear hI; intro w hI
  simp only [List.set_cons_succ, List.set_cons_zero] at hI
  rw [Nat.mul_one, KG hk8] at hI
  refine Aa ?_
  refine HZ (by kernel_rfl) ?_
  exact ⟨⟨rfl, rfl, rfl, rfl, rfl, rfl, rfl, trivial⟩, hI⟩
 clear hI
 rintro ρ w ⟨hH, hI⟩
 obtain ⟨σ, rfl⟩ := hH.open
 refine Ac (Ab (T8 rfl (T8 rfl (Td rfl (V7 5 rfl (V3 (.slice _ _ _) rfl (hI.c2 rfl) (V0 rfl (Vm [(0, .int .i64 _)] [_] [.int .i64 0] [0] hI rfl Tryd.underlying24 (fun _ => by kernel_rfl) ?_))))))))
 clear hI; rintro b112 w - - hI
 refine Ve 8 (.int .i64 0) hI rfl Tryd.underlying24 rfl (by rfl) hI.lit0 (by rfl) (Nat.zero_le _) ?_
 clear hI; rintro A113 c113 w hA113 hc113 hI
 replace hI := hI.d0
 refine Td rfl (V7 5 rfl ?_)
 refine ZE (u := .slice _ _ _) hI rfl rfl rfl rfl rfl rfl (by kernel_rfl) rfl rfl rfl ?_
 clear hI; intro w hI
 refine Aa ?_
 replace hI : Inv (DL l0) w0 w [StE A1 c1 st', B b7 63 #[.int .i64 p0, .int .i64 (kN : Int), .int .i64 p2, .int .i64 p3, .int .i64 p4, .int .i64 p5, .int .i64 p6, .int .i64 p7], B sb 71 (Ej o (some ⟨bA, oA, none⟩) l.length c bud f db eb (Dw L kN A1 c1) (BP sts kN st') A113 (ord.length + 1) c113), B db 4 (BD l.length (BM dn k true)), Row 0 3 1 A113 (ord.length + 1) c113 (Ba ord ++ [.int .i64 (k : Int)]), EN eb en] := hI
 replace hI : Inv (DL l0) w0 w [StE A1 c1 st', B b7 63 #[.int .i64 p0, .int .i64 (kN : Int), .int .i64 p2, .int .i64 p3, .int .i64 p4, .int .i64 p5, .int .i64 p6, .int .i64 p7], B sb 71 (Ej o (some ⟨bA, oA, none⟩) l.length c bud f db eb (Dw L kN A1 c1) (BP sts kN st') A113 (ord ++ [(k : Int)]).length c113), B db 4 (BD l.length (BM dn k true)), StE A113 c113 (ord ++ [(k : Int)]), EN eb en] := by
  unfold StE
  rw [Pb, List.length_append, List.length_singleton]
  exact hI
 have hu1 := Kw hkl hdk
 have hG1 := hG.step hA hkl hdk hg1
 rw [hkN] at hG1
 have hs1 : CZ l ⟨dn, sts, ord, en⟩ k st' = ⟨BM dn k true, BP sts kN st', ord ++ [(k : Int)], en⟩ := by unfold CZ; rw [hkN]
 have hst1 := StE.rd hI
 obtain ⟨hk1, hk2⟩ := QC hI hkn hkg
 have ho1 := nops hI
 have hst0 := (hst.now hI)
 have hsub : ∀ e ∈ prt sb o (some ⟨bA, oA, none⟩) l.length c bud f db eb (Dw L kN A1 c1) ⟨BM dn k true, BP sts kN st', ord ++ [(k : Int)], en⟩ A113 c113, e ∈ [StE A1 c1 st', B b7 63 #[.int .i64 p0, .int .i64 (kN : Int), .int .i64 p2, .int .i64 p3, .int .i64 p4, .int .i64 p5, .int .i64 p6, .int .i64 p7], B sb 71 (Ej o (some ⟨bA, oA, none⟩) l.length c bud f db eb (Dw L kN A1 c1) (BP sts kN st') A113 (ord ++ [(k : Int)]).length c113), B db 4 (BD l.length (BM dn k true)), StE A113 c113 (ord ++ [(k : Int)]), EN eb en] := fun e he => List.mem_cons_of_mem _ (List.mem_cons_of_mem _ he)
 replace hI : Inv (DL l0) w0 w (prt sb o (some ⟨bA, oA, none⟩) l.length c bud f db eb (Dw L kN A1 c1) ⟨BM dn k true, BP sts kN st', ord ++ [(k : Int)], en⟩ A113 c113 ++ [StE A1 c1 st', B b7 63 #[.int .i64 p0, .int .i64 (kN : Int), .int .i64 p2, .int .i64 p3, .int .i64 p4, .int .i64 p5, .int .i64 p6, .int .i64 p7]]) := hI.perm (List.perm_append_comm (l₁ := [_, _]))
 have hcall := ih ⟨BM dn k true, BP sts kN st', ord ++ [(k : Int)], en⟩ (Dw L kN A1 c1) A113 c113 w (by simp only; simp only at hu; omega) hG1 (by simp only [List.length_append, List.length_singleton]; simp only at hord; omega) hen hI.from (Rd.mono ho1 fun _ hb => DL.mono hsub hb) hk1 (DL.mono hsub hk2) ((hst0.mono hsub).upd (hst1.mono fun _ hb => DL.mono (fun e he => List.mem_cons_of_mem _ he) hb))
 by_cases hcode : (AX o l ab bud fu ⟨BM dn k true, BP sts kN st', ord ++ [(k : Int)], en⟩).1 = 2
 rotate_left
 ·rw [MN hnx hg1 (by rw [hs1]; exact hcode), hs1] at hgo
  refine Ac (Ac (Ab (T8 rfl (Va [.pointer _] rfl Tryd.func21 rfl ?_))))
  refine hcall.mono ?_
  generalize hR : AX o l ab bud fu ⟨BM dn k true, BP sts kN st', ord ++ [(k : Int)], en⟩ = R at hcode hgo
  rintro e w4 ⟨L', A2, c2, rfl, hT, hLL⟩
  rw [hR] at hT hLL ⊢
  obtain ⟨z, s'⟩ := R
  simp only at hcode hT hLL
  refine ⟨_, rfl, ?_⟩
  replace hI := hI.turnL hT
  refine V9 rfl (Aa (Ac (Ab (V0 rfl (Tm rfl (Aa (Ad true rfl (Ac (Ab (V0 rfl (V9 rfl (Aa ?_))))))))))))
  refine Aj ?_
  exact Bw 2 (.inr rfl) rfl (Dj.mk hgo hI.d4.d4 (fun e => absurd e hcode))
 rw [O1 hnx hg1 (by rw [hs1]; exact hcode), hs1] at hgo
 have heq := VF hcode
 have hen2 : (AX o l ab bud fu ⟨BM dn k true, BP sts kN st', ord ++ [(k : Int)], en⟩).2.ent.length ≤ bud := M8 fu _ hen
 refine Ac (Ac (Ab (T8 rfl (Va [.pointer _] rfl Tryd.func21 rfl ?_))))
 refine hcall.mono ?_
 rintro e w4 ⟨L', A2, c2, rfl, hT, hLL⟩
 obtain rfl := hLL hcode
 rw [heq] at hT
 rw [hcode]
 refine ⟨_, rfl, ?_⟩
 replace hI := hI.turnL hT
 refine V9 rfl (Aa ?_)
 clear hcall heq ih
 generalize (AX o l ab bud fu ⟨BM dn k true, BP sts kN st', ord ++ [(k : Int)], en⟩).2.ent = en2 at hI hen2 hgo
 replace hI : Inv (DL l0) w0 w4 [B sb 71 (Ej o (some ⟨bA, oA, none⟩) l.length c bud f db eb (Dw L kN A1 c1) (BP sts kN st') A2 (ord ++ [(k : Int)]).length c2), B db 4 (BD l.length (BM dn k true)), StE A2 c2 (ord ++ [(k : Int)]), EN eb en2, StE A1 c1 st', B b7 63 #[.int .i64 p0, .int .i64 (kN : Int), .int .i64 p2, .int .i64 p3, .int .i64 p4, .int .i64 p5, .int .i64 p6, .int .i64 p7]] := hI
 refine Ac (Ab (V0 rfl (Tl rfl (Aa (Ad false rfl (Ah ?_))))))
 refine Bt (fun ρ w => Has ρ [(48, .int .i64 (k : Int)), (47, .int .i64 (l.length : Int)), (46, .slice (some ⟨bA, oA, none⟩) l.length c), (0, .pointer (some ⟨sb, 0, none⟩))] ∧ Inv (DL l0) w0 w [B sb 71 (Ej o (some ⟨bA, oA, none⟩) l.length c bud f db eb L sts A2 (ord ++ [(k : Int)]).length c2), B db 4 (BD l.length dn), StE A2 c2 (ord ++ [(k : Int)]), EN eb en2, StE A1 c1 st', B b7 63 #[.int .i64 p0, .int .i64 (kN : Int), .int .i64 p2, .int .i64 p3, .int .i64 p4, .int .i64 p5, .int .i64 p6, .int .i64 p7]]) ?_ ?_
 ·refine BB (by kernel_rfl) ?_
  refine BC (T := [14]) hI.d1.drew ?_
  intro Sx hSx hXS
  replace hI := hI.drew
  refine T3 0 (hXS _ hI.d1) rfl (T9 1 (hXS _ hI.d1) rfl (Vq 2 4 (hXS _ hI.d1) rfl (Vh 3 (.slice _ _ _) (hXS _ hI.d1) rfl (fun W hW => (hSx W hW).c0 rfl) (Vs 4 (hXS _ hI.d1) rfl (T3 5 (hXS _ hI.d1) rfl (Vq 6 1 (hXS _ hI.d1) rfl (Vh 7 (.int .i64 _) (hXS _ hI.d1) rfl (fun W hW => (hSx W hW).c4 rfl) (Vv 8 (hXS _ hI.d1) rfl (Vl 9 (hXS _ hI.d1) rfl Tryd.underlying65 rfl (T9 11 (hXS _ hI.d1) rfl (Vq 12 6 (hXS _ hI.d1) rfl (V2 10 rfl ?_))))))))))))
  refine G5 1 rfl (u := .bool false) (j := k) hI rfl rfl rfl rfl rfl rfl (by kernel_rfl) rfl (by simp [Nat.blt, BD]; omega) rfl ?_
  clear hI; intro w hI
  simp only [List.set_cons_succ, List.set_cons_zero] at hI
  rw [J3, QK hdk] at hI
  refine Aa ⟨hXS _ hI.d1, ?_⟩
  refine Ae 13 rfl rfl (by kernel_rfl) (hXS _ hI.d1) rfl (fun W hW => have hI := hSx W hW; (FO (sz := 1) (i := kN) rfl Tryd.underlying69 (by kernel_rfl) rfl rfl rfl hk8)) ?_
  refine BV (by kernel_rfl) ?_
  clear hXS hSx
  refine HY 14 rfl (by kernel_rfl) ?_
  refine G5 0 rfl (u := .slice (L kN).1 (sts kN).length (L kN).2) (j := 6 + kN * 1) hI rfl rfl rfl rfl rfl rfl (by kernel_rfl) rfl (by simp [Nat.blt, Ej]; omega) rfl ?_
  clear hI; intro w hI
  simp only [List.set_cons_succ, List.set_cons_zero] at hI
  rw [Nat.mul_one, KG hk8, RH, PW] at hI
  refine Aa ?_
  refine HZ (by kernel_rfl) ?_
  exact ⟨⟨rfl, rfl, rfl, rfl, trivial⟩, hI⟩
 clear hI
 rintro ρ w ⟨hH, hI⟩
 obtain ⟨σ, rfl⟩ := hH.open
 have hrow : w.ownsRow 0 3 1 (.slice A2 (ord ++ [(k : Int)]).length c2) (ord ++ [(k : Int)]).length (Ba (ord ++ [(k : Int)])) := hI.g2
 have hl1 : (ord ++ [(k : Int)]).length = ord.length + 1 := by simp
 obtain ⟨g, og, rfl⟩ := GG hrow (by omega) (by omega)
 have hcap : (ord ++ [(k : Int)]).length ≤ c2 ∧ c2 ≤ 9223372036854775807 := by
  rcases Ga hrow with ⟨hA, _⟩ | ⟨_, _, _, _, h1, h2, _⟩
  ·cases hA
  ·exact ⟨h1, h2⟩
 refine BB (by kernel_rfl) ?_
 refine BC (T := [14]) hI.drew ?_
 intro Sx hSx hXS
 replace hI := hI.drew
 refine T3 0 (hXS _ hI) rfl (T3 1 (hXS _ hI) rfl (T9 2 (hXS _ hI) rfl (Vq 3 5 (hXS _ hI) rfl (Vh 4 (.slice _ _ _) (hXS _ hI) rfl (fun W hW => (hSx W hW).c0 rfl) (T3 5 (hXS _ hI) rfl (T9 6 (hXS _ hI) rfl (Vq 7 5 (hXS _ hI) rfl (Vh 8 (.slice _ _ _) (hXS _ hI) rfl (fun W hW => (hSx W hW).c0 rfl) ?_))))))))
 refine Ae 9 rfl rfl (by kernel_rfl) (hXS _ hI) rfl (fun W hW => have hI := hSx W hW; (OJ rfl Tryd.underlying24 rfl)) ?_
 refine Ae 10 rfl rfl (by kernel_rfl) (hXS _ hI) rfl (fun W hW => have hI := hSx W hW; (MC (b := 1) rfl rfl rfl (by omega) (by omega))) ?_
 refine Ae 11 rfl rfl (by kernel_rfl) (hXS _ hI) rfl (fun W hW => have hI := hSx W hW; (Gc (sz := 1) (i := (ord ++ [(k : Int)]).length - 1) rfl Tryd.underlying24 (by kernel_rfl) rfl rfl (by omega))) ?_
 refine T9 12 (hXS _ hI) rfl (Vq 13 5 (hXS _ hI) rfl ?_)
 refine BV (by kernel_rfl) ?_
 clear hXS hSx
 refine HY 14 rfl (by kernel_rfl) ?_
 refine QT (u := .slice _ _ _) hI rfl rfl rfl rfl rfl rfl (by kernel_rfl) rfl rfl rfl ?_
 clear hI; intro w hI
 refine Aa ?_
 refine HZ (by kernel_rfl) ?_
 replace hI : Inv (DL l0) w0 w [B sb 71 (Ej o (some ⟨bA, oA, none⟩) l.length c bud f db eb L sts (some ⟨g, og, none⟩) ((ord ++ [(k : Int)]).length - 1) c2), B db 4 (BD l.length dn), StE (some ⟨g, og, none⟩) c2 (ord ++ [(k : Int)]), EN eb en2, StE A1 c1 st', B b7 63 #[.int .i64 p0, .int .i64 (kN : Int), .int .i64 p2, .int .i64 p3, .int .i64 p4, .int .i64 p5, .int .i64 p6, .int .i64 p7]] := hI
 replace hI := (hI.u2 (e' := StE (some ⟨g, og, none⟩) c2 ((ord ++ [(k : Int)]).take ((ord ++ [(k : Int)]).length - 1))) (Chg.refl _ _) (PE (hI.ok _ (by simp)) _ (by omega)) (fun k hk => .inl hk)).d4.d4
 rw [hl1, Nat.add_sub_cancel, List.take_left] at hI
 refine Ab (Vb rfl (V0 rfl (Aa ?_)))
 exact ⟨l.length - (k + 1), by omega, k + 1, en2, rfl, by omega, hen2, hgo, _, _, ⟨rfl, rfl, rfl, rfl, trivial⟩, hI⟩
def PL (g j : Nat) (v : Value) : Ent := ⟨fun k => k = g, fun w => w.cell? ⟨g, j, none⟩ = some v⟩
theorem PL.ok {w : World} {g j : Nat} {v : Value} (h : w.cell? ⟨g, j, none⟩ = some v) : (PL g j v).ok w := by
 refine Ent.mk_ok h (fun k hk => ?_) (fun S w1 w2 hc hS h1 => ?_)
 ·have : k = g := hk
  subst this
  exact World.block_lt_of_cell? w _ h
 ·exact (World.cell?_of_block (hc.block g (World.block_lt_of_cell? w1 _ h1) (hS g rfl))).trans h1
section
variable {S : Nat → Prop} {w0 w : World} {H : List Ent}
theorem Inv.cellE {g t j : Nat} {cs : Array Value} {v : Value} (h : Inv S w0 w (B g t cs :: H)) (hc : cs[j]? = some v) : Inv S w0 w [PL g j v] :=
 ⟨h.chg, fun e he => by rw [List.mem_singleton.1 he]; exact PL.ok (h.c0 hc), fun e he k hk => by rw [List.mem_singleton.1 he] at hk; exact h.own (B g t cs) (by simp) k hk, List.pairwise_singleton ..⟩
theorem Inv.mapE {o : Int} {A : Option Addr} {n c bud f db eb sb : Nat} {L : Loc} {sts : Nat → List Int} {A' : Option Addr} {m c' : Nat} (h : Inv S w0 w (B sb 71 (Ej o A n c bud f db eb L sts A' m c') :: H)) : Inv S w0 w [PL sb 14 (.map (some eb))] := h.cellE rfl
theorem Inv.all0 (h : Inv (fun _ => False) w0 w H) {size n : Nat} {v : Value} {xs : List Value} {D : Nat → Prop} (hr : Rd w0 D size v n xs) (hs : 0 < size) : Rd w (fun b => ¬ DL H b) size v n xs := by
 have h' : Inv (DL []) w0 w H := ⟨h.chg.mono (fun _ _ hk => hk.elim), h.ok, fun e he k hk => (h.own e he k hk).imp (fun hh => hh.elim) id, h.apart⟩
 exact Rd.now h' (hr.mono fun _ _ => fun ⟨e, he, _⟩ => by cases he) hs
theorem Inv.kn0 (h : Inv (fun _ => False) w0 w H) (hk : Dq w0) : Dq w ∧ ¬ DL H 0 := by
 have h' : Inv (DL []) w0 w H := ⟨h.chg.mono (fun _ _ hk => hk.elim), h.ok, fun e he k hk => (h.own e he k hk).imp (fun hh => hh.elim) id, h.apart⟩
 exact QC h' hk (fun ⟨e, he, _⟩ => by cases he)
theorem AY.rd {n i : Nat} {es : Nat → Ent} {l : List Ent} {A : Option Addr} {c : Nat} {st : List Int} (hI : Inv S w0 w (AY n es :: l)) (hi : i < n) (he : es i = StE A c st) : Rd w (fun b => ¬ DL l b) 1 (.slice A st.length c) st.length (Ba st) := by
 have hg : (es i).Φ w := hI.many_at hi
 rw [he] at hg
 have hg : w.ownsRow 0 3 1 (.slice A st.length c) st.length (Ba st) := hg
 refine Rd.of_own hg fun k hk _ => ?_
 rintro ⟨e, hel, hke⟩
 rw [CS] at hk
 exact (List.pairwise_cons.1 hI.apart).1 e hel k ⟨i, hi, by rw [he]; exact hk⟩ hke
end
def stK (o : Int) (k : Nat) : Nat → List Int := fun j => if j < k then Bi o else []
def O3 (L : Loc) (k : Nat) : Loc := fun j => if j < k then L j else (none, 0)
def F3 (r : Int × SSt) : List Int := if r.1 = 1 then r.2.ord else []
def IY (o : Int) (l : List Op8) (ab : Op8 → Op8 → Bool) (bud : Int) (w0 : World) (en : Ending) (w' : World) : Prop :=
 (BA o l bud ∧ ∃ A' c', en = .returned (.tuple #[.agg #[.int .i64 (Bj o l ab bud.toNat).1, .slice A' (F3 (Bj o l ab bud.toNat)).length c', .int .i64 ((Bj o l ab bud.toNat).2.ent.length : Int)], .nilIface]) ∧ Inv (fun _ => False) w0 w' [StE A' c' (F3 (Bj o l ab bud.toNat))]) ∨
 (¬ BA o l bud ∧ (∃ x, FZ x ∧ en = .returned (.tuple #[.agg #[.int .i64 0, .slice none 0 0, .int .i64 0], x])) ∧ Pure w0 w')
def FJ (o : Int) (l : List Op8) (ab : Op8 → Op8 → Bool) (bud : Int) (w0 : World) (en : Ending) (w' : World) : Prop :=
 (BA o l bud ∧ ∃ A' c', en = .returned (.tuple #[.agg #[.int .i64 (Bj o l ab bud.toNat).1, .slice A' (F3 (Bj o l ab bud.toNat)).length c', .int .i64 ((Bj o l ab bud.toNat).2.ent.length : Int)], .nilIface]) ∧ Inv (fun _ => False) w0 w' [StE A' c' (F3 (Bj o l ab bud.toNat))]) ∨
 (¬ BA o l bud ∧ (∃ u, QV o l bud u ∧ en = .returned (.tuple #[.agg #[.int .i64 0, .slice none 0 0, .int .i64 0], .iface 48 (.int .i64 u)])) ∧ Pure w0 w')
theorem FJ.any {o : Int} {l : List Op8} {ab : Op8 → Op8 → Bool} {bud : Int} {w0 : World} {en : Ending} {w' : World} (h : FJ o l ab bud w0 en w') : IY o l ab bud w0 en w' :=
 h.imp id fun ⟨h1, ⟨u, _, h2⟩, h3⟩ => ⟨h1, ⟨_, ⟨u, rfl⟩, h2⟩, h3⟩
theorem TF (o : Int) (k : Nat) : BP (stK o k) k (Bi o) = stK o (k + 1) := by
 funext j
 unfold BP stK
 by_cases h : j = k
 ·subst h; simp
 ·rw [if_neg h]
  by_cases h2 : j < k
  ·rw [if_pos h2, if_pos (by omega)]
  ·rw [if_neg h2, if_neg (by omega)]
theorem Sm (L : Loc) (k : Nat) (A1 : Option Addr) (c1 : Nat) : Dw (O3 L k) k A1 c1 = O3 (Dw L k A1 c1) (k + 1) := by
 funext j
 unfold Dw O3
 by_cases h : j = k
 ·subst h; simp
 ·rw [if_neg h]
  by_cases h2 : j < k
  ·rw [if_pos h2, if_pos (by omega)]; simp [h]
  ·rw [if_neg h2, if_neg (by omega)]
set_option maxHeartbeats 8000000 in
theorem Ib (o : Int) (A : Option Addr) (n c : Nat) (l : List Op8) (bud : Int) (f : Nat) (ab : Op8 → Op8 → Bool) (D : Nat → Prop) (w0 : World) (h : BK w0 D (.slice A n c) l) (hk : Dq w0) (hf : Oj f ab) :
  Calls Tryd.prog 12 #[.int .i64 o, .slice A n c, .int .i64 bud, .func (.func f) #[] #[]] w0 (FJ o l ab bud w0) := by
 obtain ⟨hn, hc1, hc2⟩ := h.len
 subst hn
 have hI := Inv.start (fun _ => False) w0
 refine Vx Tryd.f12.ntmps Tryd.func12 rfl ?_
 refine Ac (Ab (Vw (.agg #[.int .i64 0, .slice none 0 0, .int .i64 0]) (#[.int .i64 0, .slice none 0 0, .int .i64 0]) hI rfl ?_))
 clear hI; rintro b8 w - - hI
 refine Vy rfl (Aa ?_)
 by_cases hok : BA o l bud
 rotate_left
 ·refine Ac (Ac (Ab (V0 rfl (V8 rfl (V0 rfl (Va [.int .i64 _, .slice _ _ _, .int .i64 _] rfl Tryd.func18 rfl ?_))))))
  refine (Gg o A l.length c l bud D _ (h.pure hI.pu) (hk.pure hI.pu)).mono ?_
  rintro e w1 ⟨hp, ⟨h1, _⟩ | ⟨_, z, hz, rfl⟩⟩
  ·exact absurd h1 hok
  refine ⟨_, rfl, ?_⟩
  replace hI := hI.pure hp
  refine T6 rfl (Aa (Ac (Ab ?_)))
  refine Af rfl rfl rfl (by exact EH rfl rfl) ?_
  refine Af rfl rfl rfl (by exact Fv rfl Tryd.underlying28 rfl rfl) ?_
  refine Aa (Ad true rfl (Ac (Ab ?_)))
  refine Af rfl rfl rfl (EI (qs := []) (vs := [_, _, _]) [.int .i64 0, .slice none 0 0, .int .i64 0] [] rfl rfl rfl (fun _ => by kernel_rfl)) ?_
  refine Af rfl rfl rfl (by exact EH rfl rfl) ?_
  refine Vz 3 (#[_, _, _]) (.agg _) hI rfl ?_
  clear hI; intro w hI
  refine T6 rfl (Aa ?_)
  refine Aj ?_
  refine JQ (n := 3) (t := 26) (.inr rfl) rfl rfl (by kernel_rfl) (by kernel_rfl) rfl hI.g0 ?_
  exact .inr ⟨hok, ⟨z, hz, rfl⟩, hI.pu⟩
 have hA := VU hok
 obtain ⟨hb0, hb1⟩ : 0 ≤ bud ∧ bud ≤ 1000000 := ⟨hok.2.2.1, hok.2.2.2.1⟩
 have h40 : l.length ≤ 40 := hok.2.2.2.2.1.1
 obtain ⟨bn, rfl⟩ : ∃ bn : Nat, bud = (bn : Int) := ⟨bud.toNat, by omega⟩
 refine Ac (Ac (Ab (V0 rfl (V8 rfl (V0 rfl (Va [.int .i64 _, .slice _ _ _, .int .i64 _] rfl Tryd.func18 rfl ?_))))))
 refine (Gg o A l.length c l _ D _ (h.pure hI.pu) (hk.pure hI.pu)).mono ?_
 rintro e w1 ⟨hp, ⟨_, rfl⟩ | ⟨h1, _⟩⟩
 rotate_left
 ·exact absurd hok h1
 refine ⟨_, rfl, ?_⟩
 replace hI := hI.pure hp
 refine Vy rfl (Aa (Ac (Ab ?_)))
 refine Af rfl rfl rfl (by exact Fb rfl rfl) ?_
 refine Af rfl rfl rfl (by exact Hg rfl Tryd.underlying28 rfl) ?_
 refine Aa (Ad false rfl (Ah (Ac (Ab (V0 rfl (V8 rfl (V0 rfl ?_)))))))
 refine Af rfl rfl rfl (by exact YW rfl rfl) ?_
 refine V8 rfl (Vi rfl Tryd.underlying22 rfl ?_)
 refine Ni (by_ := 1) (z := .bool false) hI rfl rfl rfl rfl rfl rfl Tryd.underlying65 (by kernel_rfl) rfl (by omega) (by omega) ?_
 clear hI; rintro b28 w - - hI
 refine VZ hI rfl rfl rfl rfl ?_
 clear hI; rintro b29 w - - hI
 refine Af rfl rfl rfl (EI (qs := [(0, .int .i64 _), (1, .slice _ _ _), (2, .int .i64 _), (3, .func _ _ _), (4, .slice _ _ _), (7, .map _)]) (vs := [_, _, _, _, _, _, _, _, _, _, _, _, _, _, _]) [.int .i64 0, .slice none 0 0, .int .i64 0, .nilFunc, .slice none 0 0, .slice none 0 0, .slice none 0 0, .slice none 0 0, .slice none 0 0, .slice none 0 0, .slice none 0 0, .slice none 0 0, .slice none 0 0, .slice none 0 0, .map none] [0, 1, 2, 3, 4, 14] rfl rfl rfl (fun _ => by kernel_rfl)) ?_
 refine JD (u := .agg _) (vs := #[_, _, _, _, _, _, _, _, _, _, _, _, _, _, _]) hI rfl rfl rfl rfl rfl rfl ?_
 clear hI; rintro b31 w - - hI
 refine Af rfl rfl rfl (by exact Y0 rfl rfl) ?_
 refine Aa ?_
 have hI' := hI
 rw [Lt] at hI'
 replace hI : Inv (fun _ => False) w0 w [AY 0 (fun j => StE ((fun _ => (none, 0) : Loc) j).1 ((fun _ => (none, 0) : Loc) j).2 (Bi o)), B b31 71 (Ej o A l.length c bn f b28 b29 (O3 (fun _ => (none, 0)) 0) (stK o 0) none 0 0), B b28 4 (BD l.length (fun _ => false)), StE none 0 [], EN b29 [], B b8 26 #[.int .i64 0, .slice none 0 0, .int .i64 0]] := by
  have h1 := (hI'.sw1).fresh (e := StE none 0 []) (Pure.refl w) (Row.nil w 0 3 1) (fun k hk => by cases hk)
  exact h1.sw0.sw1.many_nil _
 clear hI'
 refine Bt (fun ρ w => ∃ L : Loc, Has ρ [(0, .int .i64 o), (11, .pointer (some ⟨b31, 0, none⟩)), (8, .pointer (some ⟨b8, 0, none⟩))] ∧ Inv (fun _ => False) w0 w [AY 8 (fun j => StE (L j).1 (L j).2 (Bi o)), B b31 71 (Ej o A l.length c bn f b28 b29 (O3 L 8) (stK o 8) none 0 0), B b28 4 (BD l.length (fun _ => false)), StE none 0 [], EN b29 [], B b8 26 #[.int .i64 0, .slice none 0 0, .int .i64 0]]) ?_ ?_
 ·refine Ac (Ab (V0 rfl (Aa (Al ?_))))
  refine Ce (fun mu ρ w => ∃ (k : Nat) (L : Loc), mu = 8 - k ∧ k ≤ 8 ∧ Has ρ [(32, .int .i64 (k : Int)), (0, .int .i64 o), (11, .pointer (some ⟨b31, 0, none⟩)), (8, .pointer (some ⟨b8, 0, none⟩))] ∧ Inv (fun _ => False) w0 w [AY k (fun j => StE (L j).1 (L j).2 (Bi o)), B b31 71 (Ej o A l.length c bn f b28 b29 (O3 L k) (stK o k) none 0 0), B b28 4 (BD l.length (fun _ => false)), StE none 0 [], EN b29 [], B b8 26 #[.int .i64 0, .slice none 0 0, .int .i64 0]]) 8
   ⟨0, _, rfl, by omega, ⟨rfl, rfl, rfl, rfl, trivial⟩, hI⟩ ?_
  clear hI
  rintro mu ρ w ⟨k, L, rfl, hk8, hH, hI⟩
  obtain ⟨σ, rfl⟩ := hH.open
  by_cases hk : k < 8
  rotate_left
  ·obtain rfl : k = 8 := by omega
   refine Ac (Ab (Vo rfl (Aa (Ac (Ad false rfl ?_)))))
   refine BG ?_
   exact ⟨L, ⟨rfl, rfl, rfl, trivial⟩, hI⟩
  refine Ac (Ab (Vt rfl (Aa (Ac (Ad true rfl (Ah (Ac (Al (Ac (Ab (V0 rfl (V9 rfl (Aa ?_)))))))))))))
  refine BB (by kernel_rfl) ?_
  refine BC (T := [7]) hI.drew ?_
  intro Sx hSx hXS
  replace hI := hI.drew
  refine T3 0 (hXS _ hI) rfl (Vs 1 (hXS _ hI) rfl (Vs 2 (hXS _ hI) rfl (T9 4 (hXS _ hI) rfl (Vq 5 6 (hXS _ hI) rfl (V2 3 rfl ?_)))))
  refine Va [.int .i64 _] rfl Tryd.func20 rfl ?_
  refine (Ml o _).mono ?_
  rintro e w1 ⟨A1, c1, rfl, hT⟩
  refine ⟨_, rfl, ?_⟩
  replace hI := hI.app1 hT
  refine Aa ⟨hXS _ hI.d0, ?_⟩
  refine Ae 6 rfl rfl (by kernel_rfl) (hXS _ hI.d0) rfl (fun W hW => have hI := hSx W hW; (FO (sz := 1) (i := k) rfl Tryd.underlying69 (by kernel_rfl) rfl rfl rfl hk)) ?_
  refine BV (by kernel_rfl) ?_
  clear hXS hSx
  refine HY 7 rfl (by kernel_rfl) ?_
  refine G5 2 rfl (u := .slice A1 (Bi o).length c1) (j := 6 + k * 1) hI rfl rfl rfl rfl rfl rfl (by kernel_rfl) rfl (by simp [Nat.blt, Ej]; omega) rfl ?_
  clear hI; intro w hI
  simp only [List.set_cons_succ, List.set_cons_zero] at hI
  rw [Nat.mul_one, KG hk, TF, Sm] at hI
  refine Aa ?_
  refine HZ (by kernel_rfl) ?_
  replace hI := (hI.many_push).many_congr (es' := fun j => StE (Dw L k A1 c1 j).1 (Dw L k A1 c1 j).2 (Bi o)) (fun j hj => by
   unfold Dw
   by_cases hjk : j = k
   ·rw [if_pos hjk, if_pos hjk]
   ·rw [if_neg hjk, if_neg hjk])
  refine Ab (Vb rfl (V0 rfl (Aa ?_)))
  exact ⟨8 - (k + 1), by omega, k + 1, _, rfl, by omega, ⟨rfl, rfl, rfl, rfl, trivial⟩, hI⟩
 clear hI
 rintro ρ w ⟨L, hH, hI⟩
 obtain ⟨σ, rfl⟩ := hH.open
 generalize hL8 : O3 L 8 = L8 at hI
 generalize hvb : B b8 26 #[.int .i64 0, .slice none 0 0, .int .i64 0] = VB at hI
 have hlen0 : Ei l.length (BJ o).dn = l.length := Kv l.length
 have hcall : ∀ (W : World) (H : List Ent), Inv (fun _ => False) w0 W (prt b31 o A l.length c bn f b28 b29 L8 (BJ o) none 0 ++ AY 8 (fun j => StE (L j).1 (L j).2 (Bi o)) :: H) → Calls Tryd.prog 21 #[.pointer (some ⟨b31, 0, none⟩)] W fun en w' => ∃ L' A'' c'', en = .returned (.int .i64 (Bj o l ab bn).1) ∧ Inv (fun _ => False) w0 w' (prt b31 o A l.length c bn f b28 b29 L' (Bj o l ab bn).2 A'' c'' ++ AY 8 (fun j => StE (L j).1 (L j).2 (Bi o)) :: H) := by
  intro W H hI
  have hIm := hI.perm (List.perm_middle)
  have hst : LD W (prt b31 o A l.length c bn f b28 b29 L8 (BJ o) none 0) L8 (BJ o).sts := by
   intro j hj
   have e1 : L8 j = L j := by rw [← hL8]; unfold O3; rw [if_pos hj]
   have e2 : (BJ o).sts j = Bi o := by unfold BJ; exact if_pos hj
   rw [e1, e2]
   exact (AY.rd (st := Bi o) hIm hj rfl).mono fun _ hb => DL.mono (fun e he => List.mem_append_left _ he) hb
  obtain ⟨hk1, hk2⟩ := hI.kn0 hk
  have ho1 := hI.all0 h (by decide)
  have hsub : ∀ e ∈ prt b31 o A l.length c bn f b28 b29 L8 (BJ o) none 0, e ∈ prt b31 o A l.length c bn f b28 b29 L8 (BJ o) none 0 ++ AY 8 (fun j => StE (L j).1 (L j).2 (Bi o)) :: H := fun e he => List.mem_append_left _ he
  refine (Su o b31 b28 b29 f A c l ab bn hA hf h40 (by omega) (l.length + 1) (BJ o) L8 none 0 W (by omega) (Pg o l.length) (by rw [hlen0]; simp [BJ]; omega) (Nat.zero_le _) hI.from (ho1.mono fun _ hb => DL.mono hsub hb) hk1 (DL.mono hsub hk2) hst).mono ?_
  rintro e w' ⟨L', A'', c'', rfl, hT, _⟩
  exact ⟨L', A'', c'', rfl, hI.turnL hT⟩
 have hcall1 : ∀ (W : World) (e : Ent), Inv (fun _ => False) w0 W (e :: (prt b31 o A l.length c bn f b28 b29 L8 (BJ o) none 0 ++ [AY 8 (fun j => StE (L j).1 (L j).2 (Bi o)), VB])) → Calls Tryd.prog 21 #[.pointer (some ⟨b31, 0, none⟩)] W fun en w' => ∃ L' A'' c'', en = .returned (.int .i64 (Bj o l ab bn).1) ∧ Inv (fun _ => False) w0 w' (e :: (prt b31 o A l.length c bn f b28 b29 L' (Bj o l ab bn).2 A'' c'' ++ [AY 8 (fun j => StE (L j).1 (L j).2 (Bi o)), VB])) := by
  intro W e hI
  have pm : ∀ l : List Ent, (e :: (l ++ [AY 8 (fun j => StE (L j).1 (L j).2 (Bi o)), VB])).Perm (l ++ AY 8 (fun j => StE (L j).1 (L j).2 (Bi o)) :: [VB, e]) := fun l => by
   have h1 : (e :: (l ++ [AY 8 (fun j => StE (L j).1 (L j).2 (Bi o)), VB])).Perm ((l ++ [AY 8 (fun j => StE (L j).1 (L j).2 (Bi o)), VB]) ++ [e]) := (List.perm_append_singleton _ _).symm
   rwa [List.append_assoc] at h1
  refine (hcall W [VB, e] (hI.perm (pm _))).mono ?_
  rintro en w' ⟨L', A'', c'', rfl, hT⟩
  exact ⟨L', A'', c'', rfl, hT.perm (pm _).symm⟩
 replace hI : Inv (fun _ => False) w0 w (prt b31 o A l.length c bn f b28 b29 L8 (BJ o) none 0 ++ AY 8 (fun j => StE (L j).1 (L j).2 (Bi o)) :: [VB]) := hI.perm (List.perm_middle (l₁ := [_, _, _, _])).symm
 refine Bt (fun ρ w => ∃ (b13 : Nat) (L' : Loc) (A'' : Option Addr) (c'' : Nat), Has ρ [(11, .pointer (some ⟨b31, 0, none⟩)), (8, .pointer (some ⟨b8, 0, none⟩)), (13, .pointer (some ⟨b13, 0, none⟩))] ∧ Inv (fun _ => False) w0 w (B b13 26 #[.int .i64 (Bj o l ab bn).1, .slice none 0 0, .int .i64 ((Bj o l ab bn).2.ent.length : Int)] :: (prt b31 o A l.length c bn f b28 b29 L' (Bj o l ab bn).2 A'' c'' ++ [AY 8 (fun j => StE (L j).1 (L j).2 (Bi o)), VB]))) ?_ ?_
 ·refine BB (by kernel_rfl) ?_
  refine BC (T := [9]) hI.mapE.drew ?_
  intro Sx hSx hXS
  replace hI := hI.drew
  refine T3 0 (hXS _ hI.mapE) rfl (T3 2 (hXS _ hI.mapE) rfl (T9 3 (hXS _ hI.mapE) rfl (Vq 4 14 (hXS _ hI.mapE) rfl (Vh 5 (.map _) (hXS _ hI.mapE) rfl (fun W hW => (hSx W hW).g0) ?_))))
  refine T1 1 8 rfl ?_ ?_
  ·refine Va [.pointer _] rfl Tryd.func21 rfl ?_
   refine (hcall _ [VB] hI).mono ?_
   rintro e w1 ⟨L', A'', c'', rfl, hT⟩
   refine ⟨_, rfl, ?_⟩
   clear hI
   have hI := hT
   refine Aa ⟨hXS _ hI.mapE, ?_⟩
   refine T1 6 8 rfl ?_ ?_
   ·refine Af rfl rfl rfl (Ir rfl Tryd.underlying68 rfl (by exact hI.g3)) ?_
    refine Aa ⟨hXS _ hI.mapE, ?_⟩
    refine Ae 7 rfl rfl (by kernel_rfl) (hXS _ hI.mapE) rfl (fun W hW => have hI := hSx W hW; (EI (qs := [(0, .int .i64 _), (2, .int .i64 _)]) (vs := [_, _, _]) [.int .i64 0, .slice none 0 0, .int .i64 0] [0, 2] rfl rfl rfl (fun _ => by kernel_rfl))) ?_
    refine V2 8 rfl ?_
    refine Vw (.agg #[.int .i64 0, .slice none 0 0, .int .i64 0]) (#[.int .i64 0, .slice none 0 0, .int .i64 0]) hI rfl ?_
    clear hI; rintro b13 w - - hI
    refine Aa ⟨hXS _ hI.d0.mapE, ?_⟩
    refine BV (by kernel_rfl) ?_
    clear hXS hSx
    refine HY 9 rfl (by kernel_rfl) ?_
    refine Vz 3 (#[_, _, _]) (.agg _) hI rfl ?_
    clear hI; intro w hI
    refine Aa ?_
    refine HZ (by kernel_rfl) ?_
    exact ⟨_, _, _, _, ⟨rfl, rfl, rfl, trivial⟩, hI⟩
   ·refine Vw (.agg #[.int .i64 0, .slice none 0 0, .int .i64 0]) (#[.int .i64 0, .slice none 0 0, .int .i64 0]) hI rfl ?_
    clear hI; rintro b13 w - - hI
    refine Aa ⟨hXS _ hI.d0.mapE, ?_⟩
    refine V2 6 rfl ?_
    refine Af rfl rfl rfl (Ir rfl Tryd.underlying68 rfl (by exact hI.g4)) ?_
    refine Aa ⟨hXS _ hI.d0.mapE, ?_⟩
    refine Ae 7 rfl rfl (by kernel_rfl) (hXS _ hI.d0.mapE) rfl (fun W hW => have hI := hSx W hW; (EI (qs := [(0, .int .i64 _), (2, .int .i64 _)]) (vs := [_, _, _]) [.int .i64 0, .slice none 0 0, .int .i64 0] [0, 2] rfl rfl rfl (fun _ => by kernel_rfl))) ?_
    refine BV (by kernel_rfl) ?_
    clear hXS hSx
    refine HY 9 rfl (by kernel_rfl) ?_
    refine Vz 3 (#[_, _, _]) (.agg _) hI rfl ?_
    clear hI; intro w hI
    refine Aa ?_
    refine HZ (by kernel_rfl) ?_
    exact ⟨_, _, _, _, ⟨rfl, rfl, rfl, trivial⟩, hI⟩
  ·refine Vw (.agg #[.int .i64 0, .slice none 0 0, .int .i64 0]) (#[.int .i64 0, .slice none 0 0, .int .i64 0]) hI rfl ?_
   clear hI; rintro b13 w - - hI
   refine Aa ⟨hXS _ hI.d0.mapE, ?_⟩
   refine V2 1 rfl ?_
   refine Va [.pointer _] rfl Tryd.func21 rfl ?_
   refine (hcall1 _ _ hI).mono ?_
   rintro e w1 ⟨L', A'', c'', rfl, hT⟩
   refine ⟨_, rfl, ?_⟩
   clear hI
   have hI := hT
   refine Aa ⟨hXS _ hI.d0.mapE, ?_⟩
   refine V2 6 rfl ?_
   refine Af rfl rfl rfl (Ir rfl Tryd.underlying68 rfl (by exact hI.g4)) ?_
   refine Aa ⟨hXS _ hI.d0.mapE, ?_⟩
   refine Ae 7 rfl rfl (by kernel_rfl) (hXS _ hI.d0.mapE) rfl (fun W hW => have hI := hSx W hW; (EI (qs := [(0, .int .i64 _), (2, .int .i64 _)]) (vs := [_, _, _]) [.int .i64 0, .slice none 0 0, .int .i64 0] [0, 2] rfl rfl rfl (fun _ => by kernel_rfl))) ?_
   refine BV (by kernel_rfl) ?_
   clear hXS hSx
   refine HY 9 rfl (by kernel_rfl) ?_
   refine Vz 3 (#[_, _, _]) (.agg _) hI rfl ?_
   clear hI; intro w hI
   refine Aa ?_
   refine HZ (by kernel_rfl) ?_
   exact ⟨_, _, _, _, ⟨rfl, rfl, rfl, trivial⟩, hI⟩
 clear hI hcall hcall1
 rintro ρ w ⟨b13, L', A'', c'', hH, hI⟩
 obtain ⟨σ, rfl⟩ := hH.open
 subst hvb
 generalize hR : Bj o l ab bn = R at hI
 obtain ⟨z, s'⟩ := R
 simp only at hI
 replace hI : Inv (fun _ => False) w0 w [B b13 26 #[.int .i64 z, .slice none 0 0, .int .i64 (s'.ent.length : Int)], B b31 71 (Ej o A l.length c bn f b28 b29 L' s'.sts A'' s'.ord.length c''), B b28 4 (BD l.length s'.dn), StE A'' c'' s'.ord, EN b29 s'.ent, AY 8 (fun j => StE (L j).1 (L j).2 (Bi o)), B b8 26 #[.int .i64 0, .slice none 0 0, .int .i64 0]] := hI
 have hres : ∀ (A3 : Option Addr) (c3 : Nat) (W : World), Inv (fun _ => False) w0 W [StE A3 c3 (if z = 1 then s'.ord else [])] → FJ o l ab ((bn : Nat) : Int) w0 (.returned (.tuple #[.agg #[.int .i64 z, .slice A3 (if z = 1 then s'.ord else []).length c3, .int .i64 (s'.ent.length : Int)], .nilIface])) W := by
  intro A3 c3 W hI
  refine .inl ⟨hok, A3, c3, ?_⟩
  rw [Int.toNat_natCast, hR]
  exact ⟨rfl, hI⟩
 by_cases hz : z = 1
 ·refine Ac (Ac (Ab (V7 0 rfl (V3 (.int .i64 _) rfl (hI.c0 rfl) (Vu rfl (Aa (Ad true rfl (Ab (T8 rfl (Td rfl (V7 5 rfl (V3 (.slice _ _ _) rfl (hI.c1 rfl) (V7 1 rfl ?_)))))))))))))
  refine QT (u := .slice _ _ _) hI rfl rfl rfl rfl rfl rfl (by kernel_rfl) rfl rfl rfl ?_
  clear hI; intro w hI
  refine Aa (Ac (Ab (Tk 3 rfl hI.g0 ?_)))
  refine Rz (u := .agg _) (vs := #[_, _, _]) (n := 3) hI rfl rfl rfl rfl rfl rfl (by kernel_rfl) rfl rfl rfl ?_
  clear hI; intro w hI
  refine Vy rfl (Aa ?_)
  refine Aj ?_
  refine JQ (n := 3) (t := 26) (.inr rfl) rfl rfl (by kernel_rfl) (by kernel_rfl) rfl hI.g6 ?_
  rw [if_pos hz] at hres
  exact hres _ _ _ hI.d6.d5.d4.d2.d1.d0
 ·refine Ac (Ac (Ab (V7 0 rfl (V3 (.int .i64 _) rfl (hI.c0 rfl) (Vj rfl (Aa (Ad false rfl (Ah (Ac (Ab (Tk 3 rfl hI.g0 ?_)))))))))))
  refine Rz (u := .agg _) (vs := #[_, _, _]) (n := 3) hI rfl rfl rfl rfl rfl rfl (by kernel_rfl) rfl rfl rfl ?_
  clear hI; intro w hI
  refine Vy rfl (Aa ?_)
  refine Aj ?_
  refine JQ (n := 3) (t := 26) (.inr rfl) rfl rfl (by kernel_rfl) (by kernel_rfl) rfl hI.g6 ?_
  rw [if_neg hz] at hres
  have h1 : Inv (fun _ => False) w0 w [] := hI.d6.d5.d4.d3.d2.d1.d0
  exact hres none 0 _ (h1.fresh (Pure.refl w) (Row.nil w 0 3 1) (fun k hk => by cases hk))
theorem IV : Oj 13 BN := ⟨⟨_, Tryd.func13, rfl, rfl⟩, Hz⟩
theorem VN (o : Int) (A : Option Addr) (n c : Nat) (l : List Op8) (bud : Int) (D : Nat → Prop) (w0 : World) (h : BK w0 D (.slice A n c) l) (hk : Dq w0) :
  Calls Tryd.prog 6 #[.int .i64 o, .slice A n c, .int .i64 bud] w0 (FJ o l BN bud w0) := by
 have hI := Inv.start (fun _ => False) w0
 refine Vx Tryd.f6.ntmps Tryd.func6 rfl ?_
 refine Ac (Ab (Vw (.agg #[.int .i64 0, .slice none 0 0, .int .i64 0]) (#[.int .i64 0, .slice none 0 0, .int .i64 0]) hI rfl ?_))
 clear hI; rintro b6 w - - hI
 refine Vy rfl (Aa ?_)
 by_cases hok : BA o l bud
 ·refine Ac (Ab (V0 rfl (V8 rfl (V0 rfl (Va [.int .i64 _, .slice _ _ _, .int .i64 _, .func _ _ _] rfl Tryd.func12 rfl ?_)))))
  refine (Ib o A n c l bud _ BN D _ (h.pure hI.pu) (hk.pure hI.pu) IV).mono ?_
  rintro e w1 (⟨_, A', c', rfl, hT⟩ | ⟨h1, _⟩)
  rotate_left
  ·exact absurd hok h1
  refine ⟨_, rfl, ?_⟩
  replace hI := hI.app1 hT
  refine Vk rfl (Vk rfl ?_)
  refine XV (u := .agg _) (vs := #[_, _, _]) (n := 3) hI rfl rfl rfl rfl rfl rfl (by kernel_rfl) rfl rfl rfl ?_
  clear hI; intro w hI
  refine Vy rfl (Aa ?_)
  refine Aj ?_
  refine JQ (n := 3) (t := 26) (.inr rfl) rfl rfl (by kernel_rfl) (by kernel_rfl) rfl hI.g1 ?_
  exact .inl ⟨hok, A', c', rfl, hI.d1⟩
 ·refine Ac (Ab (V0 rfl (V8 rfl (V0 rfl (Va [.int .i64 _, .slice _ _ _, .int .i64 _, .func _ _ _] rfl Tryd.func12 rfl ?_)))))
  refine (Ib o A n c l bud _ BN D _ (h.pure hI.pu) (hk.pure hI.pu) IV).mono ?_
  rintro e w1 (⟨h1, _⟩ | ⟨_, ⟨z, hz, rfl⟩, hp⟩)
  ·exact absurd h1 hok
  refine ⟨_, rfl, ?_⟩
  replace hI := hI.pure hp
  refine Vk rfl (Vk rfl (Vz 3 (#[_, _, _]) (.agg _) hI rfl ?_))
  clear hI; intro w hI
  refine T6 rfl (Aa ?_)
  refine Aj ?_
  refine JQ (n := 3) (t := 26) (.inr rfl) rfl rfl (by kernel_rfl) (by kernel_rfl) rfl hI.g0 ?_
  exact .inr ⟨hok, ⟨z, hz, rfl⟩, hI.pu⟩
theorem Ki (o : Int) (A : Option Addr) (n c : Nat) (l : List Op8) (bud : Int) (D : Nat → Prop) (w0 : World) (h : BK w0 D (.slice A n c) l) (hk : Dq w0) :
  Calls Tryd.prog 6 #[.int .i64 o, .slice A n c, .int .i64 bud] w0 (IY o l BN bud w0) :=
 (VN o A n c l bud D w0 h hk).mono fun _ _ hh => hh.any
section
variable {S : Nat → Prop} {w0 w : World} {H : List Ent} {e : Ent}
theorem ME : ∀ (H : List Ent) (i : Nat) (e : Ent), H[i]? = some e → H.Perm (e :: H.eraseIdx i)
 | [], i, e, h => by simp at h
 | a :: H, 0, e, h => by
  simp at h
  subst h
  exact .refl _
 | a :: H, i + 1, e, h => by
  have := ME H i e (by simpa using h)
  rw [List.eraseIdx_cons_succ]
  exact (this.cons a).trans (.swap ..)
theorem Inv.pull (h : Inv S w0 w H) (i : Nat) (hi : H[i]? = some e) : Inv S w0 w (e :: H.eraseIdx i) := h.perm (ME H i e hi)
def Zb : Nat → List Ent → Ent → List Ent
 | 0, L, e => e :: L
 | _ + 1, [], e => [e]
 | i + 1, a :: L, e => a :: Zb i L e
theorem MU : ∀ (i : Nat) (L : List Ent) (e : Ent), (e :: L).Perm (Zb i L e)
 | 0, L, e => .refl _
 | i + 1, [], e => .refl _
 | i + 1, a :: L, e => (List.Perm.swap ..).trans ((MU i L e).cons a)
def Ym (L : List Ent) (i : Nat) (e : Ent) : List Ent := Zb i L e
theorem QF (L : List Ent) (i : Nat) (e : Ent) : (e :: L).Perm (Ym L i e) := MU i L e
theorem Inv.back (h : Inv S w0 w (e :: H)) (i : Nat) : Inv S w0 w (Ym H i e) := h.perm (QF H i e)
end
section
variable {P : Program} {ρ : Env} {w : World} {o : Oper} {x y : Operand} {t t' el : TypeId} {a : Addr}
end
section
variable {S : Nat → Prop} {w0 w w' : World} {H : List Ent}
end
end Go.Proofs.YtkkmokodaejheaaDoor
