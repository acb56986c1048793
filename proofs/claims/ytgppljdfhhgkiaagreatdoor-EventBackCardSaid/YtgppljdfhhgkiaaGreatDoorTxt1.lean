/- text: the kit's contracts of strings at this program, in my words. -/
import Derived.Test.YtgppljdfhhgkiaaGreatDoorGen6
import Derived.Test.YtgppljdfhhgkiaaGreatDoorTxt0
import Derived.Test.YtgppljdfhhgkiaaGreatDoorEvTxt
import Derived.Test.YtgppljdfhhgkiaaGreatDoorEvo3
import Derived.Shelf.Strings.SplitShaped
import Derived.Shelf.Strings.OnBuilder
import Derived.Shelf.Strings.BuilderK
namespace Go.Proofs.YtgppljdfhhgkiaaGreatDoor
open Go.RowKit
set_option linter.unusedVariables false
set_option linter.unusedSimpArgs false
/-- What must stand in memory for texts. -/
structure TxG (w : World) : Prop where
  num : NumG w
  err : GlobOk w
  spc : Lib.TabIs Tryz.prog w "strings.asciiSpace" .u8 Lib.asciiSpaceTab
theorem gspcN : Tryz.prog.globalNamed "strings.asciiSpace" = some 0 := by kernel_rfl
theorem TxG.pure {w w' : World} (h : TxG w) (hp : Pure w w') : TxG w' :=
  ⟨h.num.chg (hp.chg (fun _ => False)) NoG.none, ((Inv.start (fun _ => False) w).pure hp).oldp h.err, var_keep gspcN (hp.chg (fun _ => False)) id h.spc⟩
theorem fields_any (l : List UInt8) (ws : List (List UInt8)) (hf : Lib.fields l = ws) (hl : l.length ≤ 1000) (ha : ∀ (j : Nat) b, l[j]? = some b → b.toNat < 128) (w : World) (hG : TxG w) :
    Calls Tryz.prog 10 #[strV l] w fun e w' => ∃ g, e = .returned (.slice (some ⟨g, 0, none⟩) ws.length ws.length) ∧ Inv (fun _ => False) w w' [B g 9 (ws.map strV).toArray] := by
  have hs : (⟨l.toArray⟩ : ByteArray).size = l.length := str_size l
  refine (Any.strings_Fields_laid Tryz.laysM157 ⟨l.toArray⟩ w (by omega) ha hG.spc).mono ?_
  rintro e w' ⟨rfl, rfl⟩
  rw [str_list, hf]
  exact ⟨_, rfl, (Inv.start (fun _ => False) w).box _ _⟩
theorem extra156 : Builder.Extra Tryz.prog Tryz.lays156_ren := ⟨⟨by kernel_rfl, by kernel_rfl⟩, Tryz.underlying5, Tryz.isAgg5, Tryz.sizeOf5, Tryz.zeroValue5, by kernel_rfl, by kernel_rfl, by kernel_rfl, by decide⟩
theorem extra166 : Builder.Extra Tryz.prog Tryz.lays166_ren := ⟨⟨by kernel_rfl, by kernel_rfl⟩, Tryz.underlying5, Tryz.isAgg5, Tryz.sizeOf5, Tryz.zeroValue5, by kernel_rfl, by kernel_rfl, by kernel_rfl, by decide⟩
theorem extra169 : Builder.Extra Tryz.prog Tryz.lays169_ren := ⟨⟨by kernel_rfl, by kernel_rfl⟩, Tryz.underlying5, Tryz.isAgg5, Tryz.sizeOf5, Tryz.zeroValue5, by kernel_rfl, by kernel_rfl, by kernel_rfl, by decide⟩
theorem join_any (bk o c : Nat) (xs : List (List UInt8)) (w : World) (hc : ∀ (j : Nat) x, xs[j]? = some x → w.cell? ⟨bk, o + j, none⟩ = some (strV x)) (hbk : bk < w.heap.size) (hN : xs.length ≤ 1000) (hcap : xs.length ≤ c)
    (hlen : (Lib.join xs [32]).length ≤ 100000) : Calls Tryz.prog 12 #[.slice (some ⟨bk, o, none⟩) xs.length c, strV [32]] w fun e w' => e = .returned (strV (Lib.join xs [32])) ∧ Pure w w' := by
  have e1 : (xs.map (fun (x : List UInt8) => (⟨x.toArray⟩ : ByteArray))).map (·.data.toList) = xs := by rw [List.map_map]; exact List.map_id xs
  have := Any.strings_Join Tryz.lays156 extra156 bk o c (xs.map fun x => ⟨x.toArray⟩) ⟨#[32]⟩ w (fun j x hx => by
    rw [List.getElem?_map] at hx
    cases h : xs[j]? with
    | none => rw [h] at hx; cases hx
    | some y =>
      rw [h] at hx
      injection hx with hx
      subst hx
      exact hc j y h) hbk (by rw [List.length_map]; omega) (by rw [List.length_map]; exact hcap) (by rw [e1]; show (Lib.join xs [32]).length ≤ _; omega)
  rw [List.length_map, e1] at this
  exact this
theorem inv_rowOf {S : Nat → Prop} {w0 w : World} {H : List Ent} {g e : Nat} {cs : Array Value} (hI : Inv S w0 w (B g e cs :: H)) (n : Nat) (hn : cs.size = n) (hm : n ≤ 1000000) : Inv S w0 w (Row 0 e 1 (some ⟨g, 0, none⟩) n n cs.toList :: H) :=
  hI.u0 (e' := Row 0 e 1 (some ⟨g, 0, none⟩) n n cs.toList) (Chg.refl _ _) (Row.of_blk hI.g0 (Nat.zero_le _) (by omega) (by omega)) (fun k hk => .inl (by have : some g = some k := hk; injection this with this; exact this.symm))
abbrev IsB (B b : Nat) (l : List UInt8) (w : World) : Prop := Lib.IsBuilderF 37 5 B b (Lib.byteCells l) w
theorem BuilderAtF.pure' {T e : TypeId} {B b : Nat} {p : Value} {bs : List Value} {w w' : World} (h : Lib.BuilderAtF T e B b p bs w) (hp : Pure w w') : Lib.BuilderAtF T e B b p bs w' := by
  obtain ⟨hB, v, hb, ⟨h1, h2⟩, hne⟩ := h
  have hk : ∀ {k : Nat} {o : Obj}, w.heap[k]? = some o → w'.heap[k]? = some o := fun {k o} h => (hp.block k (Array.getElem?_eq_some_iff.1 h).1).trans h
  refine ⟨hB, v, hk hb, ⟨h1, ?_⟩, hne⟩
  rcases h2 with h2 | ⟨g, cap, cur, fz, q1, q2, q3, q4, q5, q6, q7, q8⟩
  · exact .inl h2
  · exact .inr ⟨g, cap, cur, fz, q1, q2, hk q3, q4, q5, q6, q7, q8⟩
theorem IsB.pure {B b : Nat} {l : List UInt8} {w w' : World} (h : IsB B b l w) (hp : Pure w w') : IsB B b l w' := h.elim (fun x => .inl (BuilderAtF.pure' x hp)) (fun x => .inr (BuilderAtF.pure' x hp))
theorem IsB.of_blk {w : World} {B b : Nat} (h : Blk w b 37 #[.pointer none, .slice none 0 0]) (hB : B ≤ b) : IsB B b [] w := .inl ⟨hB, _, h, World.ownsRowF_nil _ _ _ _, by simp [Value.ownBlock]⟩
theorem wrs_any (B b : Nat) (l s : List UInt8) (w : World) (h : IsB B b l w) (hlen : l.length + s.length ≤ 1000000) (hB : B ≤ w.heap.size) :
    Calls Tryz.prog 11 #[.pointer (some ⟨b, 0, none⟩), strV s] w fun e w' => (∃ v, e = .returned v) ∧ IsB B b (l ++ s) w' ∧ Below B w w' := by
  have hs : (⟨s.toArray⟩ : ByteArray).size = s.length := str_size s
  refine (Any.Builder_WriteString_k Tryz.lays166 extra166 B b _ ⟨s.toArray⟩ w h (by rw [Lib.byteCells_length]; omega) hB).mono ?_
  rintro e w' ⟨rfl, h1, h2, -⟩
  refine ⟨⟨_, rfl⟩, .inr ?_, h2⟩
  rw [Lib.byteCells_append]
  rw [Lib.strCells_eq] at h1
  exact h1
theorem bstr_any (B b : Nat) (l : List UInt8) (w : World) (h : IsB B b l w) (hB : B ≤ w.heap.size) :
    Calls Tryz.prog 13 #[.pointer (some ⟨b, 0, none⟩)] w fun e w' => e = .returned (strV l) ∧ Below B w w' := by
  refine (Any.Builder_String_any_k Tryz.lays169 extra169 B b l w h hB).mono ?_
  rintro e w' ⟨rfl, _, h2, -⟩
  exact ⟨rfl, h2⟩
end Go.Proofs.YtgppljdfhhgkiaaGreatDoor
