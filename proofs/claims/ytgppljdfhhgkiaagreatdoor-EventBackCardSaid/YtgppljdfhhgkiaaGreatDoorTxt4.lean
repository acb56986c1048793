/- text: event.lines: an iterator over the words of a text's lines (a text that Text wrote). -/
import Derived.Test.YtgppljdfhhgkiaaGreatDoorTxt1
import Derived.Test.YtgppljdfhhgkiaaGreatDoorSxI
import Derived.Shelf.Strings.FieldsFuncAny
namespace Go.Proofs.YtgppljdfhhgkiaaGreatDoor
open Go.RowKit
set_option linter.unusedVariables false
set_option linter.unusedSimpArgs false
theorem spc_any (x : Nat) (w0 : World) : Calls Tryz.prog 29 #[.int .i32 (x : Int)] w0 fun e w' => e = .returned (.bool (spP x)) ∧ w' = w0 := by
  have hI := Inv.start (fun _ => False) w0
  refine calls_of_W (N := Tryz.f29.ntmps) Tryz.func29 rfl rfl rfl ?_
  refine W_seq ?_
  refine W_region ?_
  refine WL_val rfl rfl rfl (by first | exact rAsgnB rfl rfl | exact rAsgn rfl) ?_
  refine WL_nil ?_
  refine W_seq ?_
  refine W_region ?_
  refine WL_val rfl rfl rfl (by first | exact rMoveI rfl rfl | exact rMove rfl) ?_
  refine WL_val rfl rfl rfl (rEql rfl rfl rfl) ?_
  refine WL_val rfl rfl rfl (by first | exact rAsgnB rfl rfl | exact rAsgn rfl) ?_
  refine WL_nil ?_
  refine W_ret ?_
  refine ret1 2 (.inr rfl) rfl ⟨?_, rfl⟩
  show Ending.returned (.bool (decide ((x : Int) = 32))) = _
  unfold spP
  congr 2
  by_cases h : x = 32
  · subst h; rfl
  · rw [decide_eq_false (by omega), beq_eq_false_iff_ne.2 h]
/-- The variable that bytealg asks for lengths. -/
def MaxOk (w : World) : Prop := ∃ m : Int, w.cell? ⟨4, 0, none⟩ = some (.int .i64 m)
theorem MaxOk.of {w : World} (h : w.ShapedOpen Tryz.prog) : MaxOk w := Tryz.laysM146.s1_3 w h
theorem MaxOk.pure {w w' : World} (h : MaxOk w) (hp : Pure w w') : MaxOk w' := by
  obtain ⟨m, h⟩ := h
  exact ⟨m, ((Inv.start (fun _ => False) w).pure hp).oldp h⟩
def piecesV (l : List Ev) : Array Value := ((l.map lineE ++ [[]]).map strV).toArray
theorem split_any (l : List Ev) (hl : l.length ≤ 120) (h : ∀ e ∈ l, EvOk e) (w : World) (hM : MaxOk w) :
    Calls Tryz.prog 28 #[strV (textE l), strV [10]] w fun e w' => ∃ g, e = .returned (.slice (some ⟨g, 0, none⟩) (l.length + 1) (l.length + 1)) ∧ Inv (fun _ => False) w w' [B g 9 (piecesV l)] := by
  obtain ⟨m, hm⟩ := hM
  have hs : (⟨(textE l).toArray⟩ : ByteArray).size = (textE l).length := str_size _
  have ht := textE_len l h
  refine (Any.strings_Split { Tryz.laysM146 with } Tryz.laysM146.i9 ⟨(textE l).toArray⟩ ⟨#[10]⟩ m w (by omega) hm (by decide)).mono ?_
  rintro e w' ⟨rfl, rfl⟩
  rw [text_split l h, text_count l h, List.map_map]
  exact ⟨_, rfl, (Inv.start (fun _ => False) w).box _ _⟩
theorem ffunc_any (s : List UInt8) (ws : List (List UInt8)) (hs : s.length ≤ 100000) (hf : Lib.goFieldsP spP ⟨s.toArray⟩ = ws.map fun (w : List UInt8) => (⟨w.toArray⟩ : ByteArray)) (w : World) :
    Calls Tryz.prog 21 #[strV s, .func (.func 29) #[] #[]] w fun e w' => ∃ g, e = .returned (.slice (some ⟨g, 0, none⟩) ws.length ws.length) ∧ Inv (fun _ => False) w w' [Row w.heap.size 9 1 (some ⟨g, 0, none⟩) ws.length ws.length (ws.map strV)] := by
  have hz : (⟨s.toArray⟩ : ByteArray).size = s.length := str_size s
  refine (Any.strings_FieldsFunc_runes Tryz.lays229 29 #[] (enters_of Tryz.func29 rfl rfl) spP ⟨s.toArray⟩ w (by omega) (fun W x _ _ => (spc_any x W).mono (by rintro e w' ⟨rfl, rfl⟩; exact ⟨rfl, 0, rfl⟩)) (by kernel_rfl) (by kernel_rfl)).mono ?_
  rintro e w' ⟨A, rfl, hA, hR, hp⟩
  rw [hf, List.length_map, List.map_map] at hR
  rw [hf, List.length_map]
  exact ⟨A, rfl, (Inv.start (fun _ => False) w).fresh hp (Row.ok hR) (fun k hk => by have hk : some A = some k := hk; injection hk with hk; omega)⟩
theorem lines_any (s : List UInt8) (w0 : World) : Calls Tryz.prog 15 #[strV s] w0 fun e w' => ∃ g, e = .returned (.func (.func 27) #[] #[.pointer (some ⟨g, 0, none⟩)]) ∧ Inv (fun _ => False) w0 w' [B g 9 #[strV s]] := by
  have hI := Inv.start (fun _ => False) w0
  refine calls_of_W (N := Tryz.f15.ntmps) Tryz.func15 rfl rfl rfl ?_
  refine W_seq ?_
  refine W_region ?_
  refine WL_box (u := .string _) (vs := #[_]) hI rfl rfl rfl rfl rfl rfl ?_
  clear hI; rintro b1 w - - hI
  refine WL_val rfl rfl rfl (by first | exact rAsgnF rfl rfl | exact rAsgn rfl) ?_
  refine WL_nil ?_
  refine W_seq ?_
  refine W_region ?_
  refine WL_val rfl rfl rfl (rFunc (l := []) (m := [_]) rfl rfl rfl) ?_
  refine WL_val rfl rfl rfl (by first | exact rAsgnF rfl rfl | exact rAsgn rfl) ?_
  refine WL_nil ?_
  refine W_ret ?_
  exact ret1 2 (.inr rfl) rfl ⟨_, rfl, hI⟩
end Go.Proofs.YtgppljdfhhgkiaaGreatDoor
