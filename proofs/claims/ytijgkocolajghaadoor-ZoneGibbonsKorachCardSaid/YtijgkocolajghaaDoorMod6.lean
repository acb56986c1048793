/- model.Run. -/
import Derived.Test.YtijgkocolajghaaDoorMod5
import Derived.Test.YtijgkocolajghaaDoorModLaw2
namespace Go.Proofs.YtijgkocolajghaaDoor
open Go.RowKit
set_option linter.unusedVariables false
set_option linter.unusedSimpArgs false
def OpsR (w : World) (D : Nat → Prop) (v : Value) (l : List Op8) : Prop := Rd w D 8 v l.length (l.flatMap opV)
theorem OpsR.pure {w w' : World} {D : Nat → Prop} {v : Value} {l : List Op8} (h : OpsR w D v l) (hp : Pure w w') : OpsR w' D v l := Rd.pure h hp
theorem OpsR.at {w : World} {D : Nat → Prop} {A : Option Addr} {n c : Nat} {l : List Op8} (h : OpsR w D (.slice A n c) l) {k : Nat} (hk : k < l.length) : ∃ b o, A = some ⟨b, o, none⟩ ∧ ∀ (j : Nat) (u : Value), (opV (oAt l k))[j]? = some u → w.cell? ⟨b, o + k * 8 + j, none⟩ = some u := by
  obtain ⟨A1, c1, hv, hnc, hcm, hlen, hcell⟩ := h
  injection hv with e1 e2 e3
  subst e1 e3
  obtain ⟨b, o, hbo, _, hcl⟩ := hcell (by omega)
  refine ⟨b, o, hbo, fun j u hj => ?_⟩
  have hj8 : j < 8 := by have := (List.getElem?_eq_some_iff.1 hj).1; simpa [opV] using this
  have hg : l[k]? = some (oAt l k) := by unfold oAt; rw [List.getD_eq_getElem?_getD, List.getElem?_eq_getElem hk]; rfl
  rw [Nat.add_assoc]
  refine hcl _ u ?_
  rw [flatN (f := opV) (fun a => rfl) l k _ hg j hj8]
  exact hj
theorem OpsR.len {w : World} {D : Nat → Prop} {A : Option Addr} {n c : Nat} {l : List Op8} (h : OpsR w D (.slice A n c) l) : n = l.length ∧ n ≤ c ∧ c ≤ 9223372036854775807 := by
  obtain ⟨A', c', he, h1, h2⟩ := Rd.form h
  injection he with _ e2 e3
  subst e2 e3
  exact ⟨rfl, h1, h2⟩
/-- Where states lie. -/
abbrev Loc := Nat → Option Addr × Nat
def stV8 (g : Sts8) (L : Loc) : Int → Option Value := fun m => if 0 ≤ m ∧ m < 8 then (g m.toNat).map (fun st => .slice (L m.toNat).1 st.length (L m.toNat).2) else none
def stE8 (g : Sts8) (L : Loc) (k : Nat) : Ent := match g k with | none => Ent.nil | some st => StE (L k).1 (L k).2 st
def updL (L : Loc) (k : Nat) (A : Option Addr) (c : Nat) : Loc := fun j => if j = k then (A, c) else L j
theorem stV8_set {g : Sts8} {L : Loc} {k : Nat} {z : Int} (hz : z = (k : Int)) (hk : k < 8) (st : List Int) (A : Option Addr) (c : Nat) : (fun j => if j = z then some (.slice A st.length c) else stV8 g L j) = stV8 (updS g k st) (updL L k A c) := by
  subst hz
  funext j
  unfold stV8
  by_cases hj : j = (k : Int)
  · subst hj
    rw [if_pos rfl, if_pos (by omega)]
    simp [updS, updL]
  · rw [if_neg hj]
    by_cases hr : 0 ≤ j ∧ j < 8
    · rw [if_pos hr, if_pos hr]
      have : j.toNat ≠ k := by omega
      simp [updS, updL, this]
    · rw [if_neg hr, if_neg hr]
theorem stE8_set (g : Sts8) (L : Loc) (k : Nat) (st : List Int) (A : Option Addr) (c : Nat) (j : Nat) : (if j = k then StE A c st else stE8 g L j) = stE8 (updS g k st) (updL L k A c) j := by
  unfold stE8
  by_cases hj : j = k
  · subst hj; simp [updS, updL]
  · simp [updS, updL, hj]
theorem Inv.many_set {S : Nat → Prop} {w0 w : World} {H : List Ent} {e : Ent} {n i : Nat} {es : Nat → Ent} (h : Inv S w0 w (e :: Many n es :: H)) (hi : i < n) : Inv S w0 w (Many n (fun j => if j = i then e else es j) :: H) := by
  have h1 := (h.sw0.many_out hi).d0.sw0.many_in hi (by simp)
  refine h1.many_congr fun j hj => ?_
  by_cases e : j = i
  · simp [e]
  · simp [e]
end Go.Proofs.YtijgkocolajghaaDoor
