/- EvTxt: what Text writes of events, and how it is read back. Plain. -/
import Derived.Test.YtgppljdfhhgkiaaGreatDoorRecLaw
import Derived.Test.YtgppljdfhhgkiaaGreatDoorTxtLaw
import Derived.Test.YtgppljdfhhgkiaaGreatDoorStrL
import Derived.Lib.Fields
namespace Go.Proofs.YtgppljdfhhgkiaaGreatDoor
open Go
set_option linter.unusedVariables false
set_option linter.unusedSimpArgs false
def typeS : List UInt8 := [105, 110, 118, 111, 107, 101, 32, 111, 107, 32, 102, 97, 105, 108, 32, 105, 110, 102, 111]
def kindS : List UInt8 := [114, 101, 97, 100, 32, 119, 114, 105, 116, 101, 32, 115, 119, 97, 112, 32, 97, 100, 100, 32, 103, 101, 116, 32, 112, 117, 116, 32, 100, 114, 111, 112, 32, 104, 97, 115, 32, 112, 117, 115, 104, 32, 112, 111, 112, 32, 108, 111, 99, 107, 32, 117, 110, 108, 111, 99, 107]
def typeWs : List (List UInt8) := [[105, 110, 118, 111, 107, 101], [111, 107], [102, 97, 105, 108], [105, 110, 102, 111]]
def kindWs : List (List UInt8) := [[114, 101, 97, 100], [119, 114, 105, 116, 101], [115, 119, 97, 112], [97, 100, 100], [103, 101, 116], [112, 117, 116], [100, 114, 111, 112], [104, 97, 115], [112, 117, 115, 104], [112, 111, 112], [108, 111, 99, 107], [117, 110, 108, 111, 99, 107]]
theorem fields_typeS : Lib.fields typeS = typeWs := by decide +kernel
theorem fields_kindS : Lib.fields kindS = kindWs := by decide +kernel
theorem typeWs_ok : ∀ w ∈ typeWs, (w ≠ [] ∧ ∀ c ∈ w, wordB c = true) ∧ w.length ≤ 6 := by decide +kernel
theorem kindWs_ok : ∀ w ∈ kindWs, (w ≠ [] ∧ ∀ c ∈ w, wordB c = true) ∧ w.length ≤ 6 := by decide +kernel
theorem typeWs_nd : typeWs.Nodup := by decide +kernel
theorem kindWs_nd : kindWs.Nodup := by decide +kernel
theorem typeS_ascii : ∀ (j : Nat) b, typeS[j]? = some b → b.toNat < 128 := fun j b h => (by decide +kernel : ∀ b ∈ typeS, b.toNat < 128) b (List.mem_of_getElem? h)
theorem kindS_ascii : ∀ (j : Nat) b, kindS[j]? = some b → b.toNat < 128 := fun j b h => (by decide +kernel : ∀ b ∈ kindS, b.toNat < 128) b (List.mem_of_getElem? h)
def tyW (e : Ev) : List UInt8 := typeWs.getD (e.ty - 1).toNat []
def kdW (e : Ev) : List UInt8 := kindWs.getD (e.kind - 1).toNat []
def wordsE (e : Ev) : List (List UInt8) := [Lib.itoa e.proc, tyW e, kdW e, Lib.itoa e.key, Lib.itoa e.a, Lib.itoa e.b, Lib.itoa e.res]
def lineE (e : Ev) : List UInt8 := Lib.join (wordsE e) [32]
def textE (l : List Ev) : List UInt8 := linesT (l.map lineE)
/-- What Text tells. -/
def evT (l : List Ev) : Option (List UInt8) := if l.length ≤ 120 ∧ l.all evOkB = true then some (textE l) else none
structure EvOk (e : Ev) : Prop where
  p : 0 ≤ e.proc ∧ e.proc ≤ 7
  k : 0 ≤ e.key ∧ e.key ≤ 7
  t : 1 ≤ e.ty ∧ e.ty ≤ 4
  kd : 1 ≤ e.kind ∧ e.kind ≤ 12
  a : -1000000 ≤ e.a ∧ e.a ≤ 1000000
  b : -1000000 ≤ e.b ∧ e.b ≤ 1000000
  r : -1000000 ≤ e.res ∧ e.res ≤ 1000000
theorem EvOk.of {e : Ev} (h : evOkB e = true) : EvOk e := by
  simp only [evOkB, toldB, inB, List.all_cons, List.all_nil, Bool.and_eq_true, decide_eq_true_eq, Bool.and_true] at h
  obtain ⟨⟨⟨⟨⟨⟨ha, hb, hr⟩, hp⟩, hk⟩, ht⟩, hkd⟩, _⟩ := h
  exact ⟨hp, hk, ht, hkd, ha, hb, hr⟩
theorem EvOk.tyAt {e : Ev} (h : EvOk e) : typeWs[(e.ty - 1).toNat]? = some (tyW e) := by
  have hl : (e.ty - 1).toNat < typeWs.length := by have := h.t; show _ < 4; omega
  rw [tyW, List.getD_eq_getElem?_getD, List.getElem?_eq_getElem hl]; rfl
theorem EvOk.kdAt {e : Ev} (h : EvOk e) : kindWs[(e.kind - 1).toNat]? = some (kdW e) := by
  have hl : (e.kind - 1).toNat < kindWs.length := by have := h.kd; show _ < 12; omega
  rw [kdW, List.getD_eq_getElem?_getD, List.getElem?_eq_getElem hl]; rfl
theorem EvOk.tyOk {e : Ev} (h : EvOk e) : (tyW e ≠ [] ∧ ∀ c ∈ tyW e, wordB c = true) ∧ (tyW e).length ≤ 6 := typeWs_ok _ (List.mem_of_getElem? h.tyAt)
theorem EvOk.kdOk {e : Ev} (h : EvOk e) : (kdW e ≠ [] ∧ ∀ c ∈ kdW e, wordB c = true) ∧ (kdW e).length ≤ 6 := kindWs_ok _ (List.mem_of_getElem? h.kdAt)
theorem wordsE_ok {e : Ev} (h : EvOk e) : ∀ w ∈ wordsE e, w ≠ [] ∧ ∀ c ∈ w, wordB c = true := by
  intro w hw
  simp only [wordsE, List.mem_cons, List.not_mem_nil, or_false] at hw
  rcases hw with rfl | rfl | rfl | rfl | rfl | rfl | rfl
  · exact itoa_word _
  · exact h.tyOk.1
  · exact h.kdOk.1
  · exact itoa_word _
  · exact itoa_word _
  · exact itoa_word _
  · exact itoa_word _
theorem lineE_eq (e : Ev) : lineE e = Lib.itoa e.proc ++ 32 :: (tyW e ++ 32 :: (kdW e ++ 32 :: (Lib.itoa e.key ++ 32 :: (Lib.itoa e.a ++ 32 :: (Lib.itoa e.b ++ 32 :: Lib.itoa e.res))))) := by
  simp [lineE, wordsE, Lib.join, List.intercalate, List.intersperse]
theorem lineE_mem {e : Ev} {c : UInt8} (hc : c ∈ lineE e) : c = 32 ∨ ∃ w ∈ wordsE e, c ∈ w := by
  rw [lineE_eq] at hc
  simp only [List.mem_append, List.mem_cons] at hc
  simp only [wordsE, List.mem_cons, List.not_mem_nil, or_false]
  rcases hc with h | h | h | h | h | h | h | h | h | h | h | h | h
  · exact .inr ⟨_, .inl rfl, h⟩
  · exact .inl h
  · exact .inr ⟨_, .inr (.inl rfl), h⟩
  · exact .inl h
  · exact .inr ⟨_, .inr (.inr (.inl rfl)), h⟩
  · exact .inl h
  · exact .inr ⟨_, .inr (.inr (.inr (.inl rfl))), h⟩
  · exact .inl h
  · exact .inr ⟨_, .inr (.inr (.inr (.inr (.inl rfl)))), h⟩
  · exact .inl h
  · exact .inr ⟨_, .inr (.inr (.inr (.inr (.inr (.inl rfl))))), h⟩
  · exact .inl h
  · exact .inr ⟨_, .inr (.inr (.inr (.inr (.inr (.inr rfl))))), h⟩
theorem lineE_no10 {e : Ev} (h : EvOk e) : 10 ∉ lineE e := fun hc => by
  rcases lineE_mem hc with h1 | ⟨w, hw, h1⟩
  · exact absurd h1 (by decide)
  · exact absurd ((wordsE_ok h w hw).2 10 h1) (by decide)
theorem lineE_len {e : Ev} (h : EvOk e) : (lineE e).length ≤ 58 := by
  have h1 := itoa_len (n := e.proc) (by have := h.p; omega) (by have := h.p; omega)
  have h2 := itoa_len (n := e.key) (by have := h.k; omega) (by have := h.k; omega)
  have h3 := itoa_len h.a.1 h.a.2
  have h4 := itoa_len h.b.1 h.b.2
  have h5 := itoa_len h.r.1 h.r.2
  have h6 := h.tyOk.2
  have h7 := h.kdOk.2
  rw [lineE_eq]
  simp only [List.length_append, List.length_cons]
  omega
theorem textE_nil : textE [] = [] := rfl
theorem textE_snoc (l : List Ev) (e : Ev) : textE (l ++ [e]) = textE l ++ (lineE e ++ [10]) := by simp [textE, linesT]
theorem textE_cons (l : List Ev) (e : Ev) : textE (e :: l) = lineE e ++ 10 :: textE l := by simp [textE, linesT]
theorem textE_len : ∀ (l : List Ev), (∀ e ∈ l, EvOk e) → (textE l).length ≤ 59 * l.length
  | [], _ => Nat.le_refl _
  | e :: l, h => by
    have h1 := textE_len l (fun x hx => h x (by simp [hx]))
    have h2 := lineE_len (h e (by simp))
    rw [textE_cons, List.length_append, List.length_cons, List.length_cons]
    omega
theorem map_bytes_inj {xs : List ByteArray} {ys : List (List UInt8)} (h : xs.map (·.data.toList) = ys) : xs = ys.map fun (y : List UInt8) => (⟨y.toArray⟩ : ByteArray) := by
  subst h
  rw [List.map_map]
  conv => lhs; rw [← List.map_id xs]
  exact List.map_congr_left fun x _ => rfl
theorem text_split (l : List Ev) (h : ∀ e ∈ l, EvOk e) : Lib.splitB ⟨#[10]⟩ 0 (Lib.countB ⟨(textE l).toArray⟩ ⟨#[10]⟩) ⟨(textE l).toArray⟩ = (l.map lineE ++ [[]]).map fun (y : List UInt8) => (⟨y.toArray⟩ : ByteArray) := by
  have hn : ∀ L ∈ l.map lineE, 10 ∉ L := fun L hL => by
    obtain ⟨e, he, rfl⟩ := List.mem_map.1 hL
    exact lineE_no10 (h e he)
  apply map_bytes_inj
  rw [Lib.splitB_data]
  have hc : Lib.countB ⟨(textE l).toArray⟩ ⟨#[10]⟩ = (l.map lineE).length := lines_count _ hn
  rw [hc]
  exact split_lines _ hn
theorem text_count (l : List Ev) (h : ∀ e ∈ l, EvOk e) : Lib.countB ⟨(textE l).toArray⟩ ⟨#[10]⟩ = l.length := by
  have hc : Lib.countB ⟨(textE l).toArray⟩ ⟨#[10]⟩ = (l.map lineE).length := lines_count _ fun L hL => by
    obtain ⟨e, he, rfl⟩ := List.mem_map.1 hL
    exact lineE_no10 (h e he)
  rw [hc, List.length_map]
theorem line_fields {e : Ev} (h : EvOk e) : Lib.goFieldsP spP ⟨(lineE e).toArray⟩ = (wordsE e).map fun (w : List UInt8) => (⟨w.toArray⟩ : ByteArray) := fields_line _ (wordsE_ok h)
theorem empty_fields : Lib.goFieldsP spP ⟨#[]⟩ = [] := rfl
theorem evOk_all {l : List Ev} (h : l.all evOkB = true) : ∀ e ∈ l, EvOk e := fun e he => .of (List.all_eq_true.1 h e he)
end Go.Proofs.YtgppljdfhhgkiaaGreatDoor
