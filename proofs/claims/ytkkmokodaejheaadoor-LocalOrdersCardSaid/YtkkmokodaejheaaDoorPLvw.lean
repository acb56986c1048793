/- Texts of the proof, merged: Ld4, Ld5, Ld6, Ld7, Ld8, LeA, LeB, LeC, LeD, LeE, LeF, LeG, LeH, LeI, Lvw. -/
import Derived.Test.YtkkmokodaejheaaDoorPLd3
import Derived.Test.YtkkmokodaejheaaDoorPLaidL
import Derived.Conc.LeavingOf
import Derived.Handed
import Derived.SevenTiedAt
import Derived.LaidLaws
set_option linter.unusedVariables false
set_option linter.unusedSimpArgs false
set_option linter.unusedSectionVars false
set_option maxRecDepth 100000
namespace Go.Proofs.YtkkmokodaejheaaDoor
open Go Go.Conc Go.RowKit
open Go.ConcR (WgAt DC0)
open Go.ConcN (sumTo)
theorem R3 (SB : Nat → Prop) (Wg : Nat) : (fun l => (∃ a : Addr, l = Go.Loc.cell a ∧ SB a.block) ∨ ∃ ad : Addr, l = .cell ad ∧ ad.block = Wg) = C9 (fun b => SB b ∨ b = Wg) := by
 funext l
 apply propext
 constructor
 ·rintro (⟨a, h1, h2⟩ | ⟨a, h1, h2⟩)
  ·exact ⟨a, h1, .inl h2⟩
  ·exact ⟨a, h1, .inr h2⟩
 ·rintro ⟨a, h1, h2 | h2⟩
  ·exact .inl ⟨a, h1, h2⟩
  ·exact .inr ⟨a, h1, h2⟩
theorem Rv {Shun : Go.Loc → Prop} {B : Nat} : ∀ w w' es, DC0 w w' es → ∀ e ∈ es, EvL Shun B e := fun w w' es h e he => by
 rw [h.2] at he
 simp at he
noncomputable def wgz : Value := ((Tryd.prog.info? 60).bind (·.zero)).getD undef
theorem YC : (Tryd.prog.info? 60).bind (·.zero) = some wgz := by
 unfold wgz
 cases h : (Tryd.prog.info? 60).bind (·.zero) with
 | some z => rfl
 | none => exact absurd (show ((Tryd.prog.info? 60).bind (·.zero)).isSome = true by kernel_rfl) (by rw [h]; simp)
theorem RG : wgz.cells = #[.int .u64 0, .int .u32 0] := by kernel_rfl
theorem UF (a : Act) (w : World) (cs : List Frame) : stepG Tryd.prog true (G (b7.at a (.inRegion Dh [0] :: [.code s10])) cs) w = .go (G (b7.at (a.put (some 16) (.pointer (some ⟨w.heap.size, 0, none⟩))) (.inRegion Dh [] :: [.code s10])) cs) (w.alloc (.cells #[.int .u64 0, .int .u32 0] 60)) #[] := by
 have ho : (Dh.getD 0 default).op = .alloc 60 := by simp only [DC, Dh, s9, s10, s8, Aq, Tryd.f7, Option.getD_some]; rfl
 have he : a.eval = ev (fun i => a.tmps.getD i undef) := by funext x; cases x <;> rfl
 have hr := Jg (P := Tryd.prog) (ρ := fun i => a.tmps.getD i undef) (w := w) ho YC
 have hl := Pj (P := Tryd.prog) (ρ := fun i => a.tmps.getD i undef) (w := w) ho
 rw [← he] at hr hl
 rw [RG] at hr
 have := stepG_value (P := Tryd.prog) (main := true) (b := b7) (a := a) (cs := cs) (k := [.code s10]) (ops := Dh) (i := 0) (rest := []) (o := Dh.getD 0 default) (by simp only [DC, Dh, s9, s10, s8, Aq, Tryd.f7, Option.getD_some]; rfl) (by simp only [DC, Dh, s9, s10, s8, Aq, Tryd.f7, Option.getD_some]; rfl) GX hr
 have hd : (Dh.getD 0 default).dst = some 16 := by simp only [DC, Dh, s9, s10, s8, Aq, Tryd.f7, Option.getD_some]; rfl
 rw [hd, listed_none hl] at this
 exact this
theorem Fh.self {M : Nat → Prop} {w : World} {e size n c : Nat} {A : Option Addr} {xs : List Value} (h : Fh M w e size A n c xs) : Fh (fun b => M b ∧ A.map (·.block) = some b ∧ ∃ cs f, w.heap[b]? = some (.cells cs e f)) w e size A n c xs := by
 obtain ⟨h0, hn, hc, hh⟩ := h
 exact ⟨h0, hn, hc, hh.imp id fun ⟨g, cur, h1, h2, h3, h4⟩ => ⟨g, cur, h1, ⟨h2, by rw [h1]; rfl, _, _, h3⟩, h3, h4⟩⟩
section
variable {SB M : Nat → Prop} {w0 w : World} {o bud : Int} {l : List Op8} {A : Option Addr} {n c : Nat} {cs : List Frame} {g : Goroutine}
set_option maxHeartbeats 1000000 in
theorem Y2 {z : Nat} {wkn : Nat} (C : DN SB w0 A n c l) (h9 : Wj SB w0 o bud (wkn : Int) l cs M g w) (hM : ∀ k, M k → k < w.heap.size ∧ ¬ SB k) (hz0 : 0 < z) (hz1 : z ≤ 1000) (hw0 : 1 ≤ wkn) (hw1 : wkn ≤ 64) :
  MBX Tryd.prog SB z (z + wkn) g w (Aay SB w0 o bud l cs) := by
 obtain ⟨T, b4, b6, b8, b12, b14, gp, gn, gf, As, cz, Bs, dz, Ch, bk, rfl, h⟩ := h9
 obtain ⟨z0, rfl⟩ : ∃ z0, z = z0 + 1 := ⟨z - 1, by omega⟩
 intro gs sl t q hz h0 hL hP
 obtain ⟨N1, gs1, d, sl1, t1, q1, hr1, hz1, h01, hL1, hP1⟩ := quiet (P := Tryd.prog) (S := C9 SB) (B := w.heap.size) (w := w) (a := G (b7.at ⟨T, []⟩ (.inRegion Dh [0] :: [.code s10])) cs) rfl
  (fun w' => (G (b7.at ((⟨T, []⟩ : Act).put (some 16) (.pointer (some ⟨w'.heap.size, 0, none⟩))) (.inRegion Dh [] :: [.code s10])) cs, w'.alloc (.cells #[.int .u64 0, .int .u32 0] 60))) (fun d => UF _ _ _) gs sl t q hz h0 hL hP
 dsimp only at hr1 h01
 have hd1 : ((w.at d).alloc (.cells #[.int .u64 0, .int .u32 0] 60)).heap[w.heap.size]? = some (.cells #[.int .u64 0, .int .u32 0] 60) := JC (w.at d) _
 have hsz1 : ((w.at d).alloc (.cells #[.int .u64 0, .int .u32 0] 60)).heap.size = w.heap.size + 1 := HV (w.at d) _
 have hsp1 : Ay (fun _ => False) w ((w.at d).alloc (.cells #[.int .u64 0, .int .u32 0] 60)) := by
  obtain ⟨a1, a2, a3, a4, a5⟩ := Cr (fun _ => False) (w.at d) (.cells #[.int .u64 0, .int .u32 0] 60)
  exact ⟨a1, a2, a3, a4, a5⟩
 have h01 : gs1[0]? = some (G (b7.at ((⟨T, []⟩ : Act).put (some 16) (.pointer (some ⟨w.heap.size, 0, none⟩))) (.inRegion Dh [] :: [.code s10])) cs) := h01
 generalize (w.at d).alloc (.cells #[.int .u64 0, .int .u32 0] 60) = w1 at hr1 hd1 hsz1 hsp1
 have hold : ∀ b, b < w.heap.size → w1.heap[b]? = w.heap[b]? := fun b hb => hsp1.rest b id hb
 have hK1 : Kept SB w0 w1 := h.kept.spares (fun _ h => h.elim) hsp1
 have C1 : DN SB w1 A n c l := C.kept hK1 (fun b hb => .inl hb)
 have box1 : Oi o bud l b4 b6 b8 b12 b14 gp gn gf As cz Bs dz M w1 := h.box.keep fun b hb hl => ⟨hb, hold b hl⟩
 have hch1 : w1.heap[Ch]? = some (.chan 0 #[] false 0 0 false) := (hold Ch (hM Ch h.mch).1).trans h.chan
 obtain ⟨e, hbk⟩ := h.bkc
 have hbk1 := (hold bk (hM bk h.mbk).1).trans hbk
 have hkn1 := Y9 C1 box1
 rw [hsz1] at hkn1
 obtain ⟨c7, hc7⟩ : ∃ c7, c7 = Hw (l8 w Ch bk b4 b12 b6 b14 gf gp o bud As cz l) (Br o bud l) (w.heap.size + 1) z0 (z0 + wkn) t1.size SB b8 gn b14 cs := ⟨_, rfl⟩
 have K := ok8 C h hM (z0 := z0) (N := z0 + wkn) (T0 := t1.size) (cs := cs) (by omega) (by omega)
 have hcsh : c7.CSh w1 := by
  rw [hc7]
  exact ⟨⟨_, _, box1.hf, by decide⟩, AaL box1 hbk1 hkn1⟩
 have hwg : WgAt c7.ty c7.A.Wg w1 0 0 := by rw [hc7]; exact hd1
 have hch : ∃ s r tm, w1.heap[c7.A.Ch]? = some (.chan 0 #[] false s r tm) := by rw [hc7]; exact ⟨_, _, _, hch1⟩
 have hSh : c7.Sh w1 := ⟨⟨_, _, hwg⟩, (let ⟨s, r, tm, hh⟩ := hch; ⟨false, s, r, tm, hh⟩), hcsh⟩
 have hs := WK (z0 := z0) (N := z0 + wkn) (T0 := t1.size) C h hM (by omega) (by omega) hw1 (w1 := w1) (by rw [← hc7]; exact hSh)
 rw [← hc7] at K hs
 have e1 : c7.A.z0 = z0 := by rw [hc7]; rfl
 have e2 : c7.N = z0 + wkn := by rw [hc7]; rfl
 have e3 : c7.A.T0 = t1.size := by rw [hc7]; rfl
 have e4 : c7.A.Wg = w.heap.size := by rw [hc7]; rfl
 have e5 : c7.A.B0 = w.heap.size + 1 := by rw [hc7]; rfl
 have e6 : c7.A.Shun = C9 SB := by rw [hc7]; rfl
 have e7 : c7.P = Tryd.prog := by rw [hc7]; rfl
 obtain ⟨n2, m2, t2, hr2, gs2, w2, sl2, a2, q2, rfl, hz2, h02, hTail, hL2, hP2, hRes, hcsh2, hrel⟩ := Cfg.phase (w := w1) (sl := sl1) K (B := w.heap.size) (by rw [e1]; exact hz1) h01 (by rw [e7]; exact hL1) (by rw [e6]; exact hP1) e3 (by rw [e4]; exact Nat.le_refl _) (by rw [e5, hsz1]; exact Nat.le_refl _) hwg hch hcsh (by rw [e2, e1, show z0 + wkn - z0 = wkn by omega]; exact hs)
 have hTail : ∃ T', T7 b8 gn b14 T' ∧ Lu Tryd.prog (G7 T' cs) a2 := by rw [hc7] at hTail; exact hTail
 obtain ⟨T', hT7, nW, hW⟩ := hTail
 rw [e7] at hL2 hr2
 obtain ⟨N3, gs3, a3, w3, sl3, t3, q3, hr3, hz3, h03, ⟨rfl, dr, rfl⟩, hL3, hP3⟩ := walk_beside (P := Tryd.prog) (D := DC0) Rv _ nW gs2 a2 w2 sl2 t2 q2 (Nat.le_refl _) h02 hL2 hP2 (hW w2)
 have hP3' : Past (C9 fun b => SB b ∨ b = w.heap.size) (w2.at dr).heap.size t3 := by
  rw [e6, e4] at hP3
  have := hP3
  unfold C9 at this
  rw [R3] at this
  exact this
 have hR : ∀ b, b < w.heap.size → b ≠ Ch → b ≠ gf → ¬ SB b → w2.heap[b]? = w1.heap[b]? := fun b h1 h2 h3 h4 => hrel.mine b (.inr (by
  rw [hc7]
  show b < w.heap.size + 1 ∧ b ≠ w.heap.size ∧ b ≠ Ch ∧ b ≠ gf ∧ ¬ SB b
  exact ⟨by omega, by omega, h2, h3, h4⟩))
 have nCh : ∀ b, (∃ cs e f, w1.heap[b]? = some (.cells cs e f)) → b ≠ Ch := fun b ⟨cs, e, f, hc⟩ hb => by
  rw [hb, hch1] at hc
  cases hc
 have hm2 : ∀ b, M b → (∃ cs e f, w1.heap[b]? = some (.cells cs e f)) → b ≠ gf → w2.heap[b]? = w1.heap[b]? := fun b h1 h2 h3 => hR b (hM b h1).1 (nCh b h2) h3 (hM b h1).2
 have hsz2 : w.heap.size + 1 ≤ w2.heap.size := by rw [← hsz1]; exact hrel.size
 have hmb8 := hM b8 (h.box.mem _ (by simp))
 have hcs2 : ∃ cs e, w2.heap[gf]? = some (.cells cs e (0, 0)) := by
  rw [hc7] at hcsh2
  obtain ⟨⟨c2, e2, hg, _⟩, _⟩ := hcsh2
  exact ⟨c2, e2, hg⟩
 have hres : ∀ k, ∃ A' cc', k < 8 → (w2.cell? ⟨gf, 3 * k, none⟩ = some (.int .i64 (Br o bud l k).code) ∧ w2.cell? ⟨gf, 3 * k + 1, none⟩ = some (.slice A' (Br o bud l k).ord.length cc') ∧ w2.cell? ⟨gf, 3 * k + 2, none⟩ = some (.int .i64 (Br o bud l k).ent)) ∧
   Gt (fun b => w0.heap.size ≤ b ∧ b < w2.heap.size ∧ b ≠ w.heap.size ∧ b ≠ b8) w2 A' cc' (Br o bud l k).ord := by
  intro k
  by_cases hk : k < 8
  ·obtain ⟨Dk, h1, h2⟩ := hRes k (by rw [hc7]; exact hk)
   rw [hc7] at h1
   obtain ⟨A', cc', g0, g1, g2, g3⟩ := h1 hk
   refine ⟨A', cc', fun _ => ⟨⟨g0, g1, g2⟩, g3.keep (fun b hb => ?_) fun _ _ => rfl⟩⟩
   have h3 := h2 b hb
   rw [e5] at h3
   have h4 := h.kept.size
   exact ⟨by omega, h3.2, by omega, by omega⟩
  ·exact ⟨none, 0, fun hh => absurd hh hk⟩
 have hnf : ∀ b, b = b4 ∨ b = b6 ∨ b = b8 ∨ b = b12 ∨ b = b14 ∨ b = gp ∨ b = gn → b ≠ gf := fun b hb => Ne.symm (h.box.nf b hb)
 have keep : ∀ {b : Nat} {t : TypeId} {cc : Array Value}, M b → b ≠ gf → Blk w1 b t cc → Blk (w2.at dr) b t cc := fun {b t cc} h1 h2 h3 => (hm2 b h1 ⟨_, _, _, h3⟩ h2).trans h3
 refine ⟨N1 + (n2 + N3), gs3, G7 T' cs, w2.at dr, sl3, t3, q3, _, ?_, by rw [hz3, hz2, e2]; omega, h03, hL3, hP3', T', w.heap.size, b8, b14, gn, gf, Bs, dz, fun k => Classical.choose (hres k), fun k => Classical.choose (Classical.choose_spec (hres k)), rfl, hT7, rfl, ?_⟩
 ·rw [runNT_add, hr1]
  show runNT _ _ _ _ = _
  rw [runNT_add, hr2]
  exact hr3
 refine ⟨keep (h.box.mem _ (by simp)) (hnf _ (by simp)) box1.h14, hcs2, fun k hk => (Classical.choose_spec (Classical.choose_spec (hres k)) hk).1, fun k hk => (Classical.choose_spec (Classical.choose_spec (hres k)) hk).2, fun k hk => ?_, keep (h.box.mem _ (by simp)) (hnf _ (by simp)) box1.hn, keep (h.box.mem _ (by simp)) (hnf _ (by simp)) box1.h8,
  ⟨h.box.n8.1, h.box.n8.2, hnf _ (by simp)⟩, fun b hb => ?_, ⟨h.kept.size, ?_⟩, ?_⟩
 ·have hbf := h.box.bf k hk
  refine (Fh.self (box1.nums k hk)).keep fun b ⟨h1, h2, cs, f, h3⟩ hl => ⟨⟨h.low b h1, ?_, ?_, ?_⟩, hm2 b h1 ⟨_, _, _, h3⟩ fun e => hbf.1 (by rw [h2, e])⟩
  ·have := (hM b h1).1
   show b < w2.heap.size
   omega
  ·have := (hM b h1).1
   omega
  ·exact fun e => hbf.2 (by rw [h2, e])
 ·have h1 : M b := h.box.mem b (by rcases hb with rfl | rfl | rfl | rfl <;> simp)
  have := (hM b h1).1
  exact ⟨h.low b h1, by show b < w2.heap.size; omega, by omega⟩
 ·show w.heap.size < w2.heap.size
  omega
 ·refine ⟨Nat.le_trans hK1.size hrel.size, fun b h1 h2 => ?_, hrel.tape.trans hK1.tape, hrel.os.trans hK1.os, hrel.out.trans hK1.out⟩
  have h3 := h.kept.size
  have h4 := h.low Ch h.mch
  have h5 := h.low gf (h.box.mem _ (by simp))
  exact (hR b (by omega) (by omega) (by omega) h2).trans (hK1.blk b h1 h2)
end
end Go.Proofs.YtkkmokodaejheaaDoor
namespace Go.Proofs.YtkkmokodaejheaaDoor
open Go Go.Conc Go.RowKit
theorem Ud {P : Program} {fn : Func} {R R' : Ending → World → Prop} {e : Exit} {ρ : Env} {w : World} (h : DR P fn R e ρ w) (hi : ∀ en w, R en w → R' en w) : DR P fn R' e ρ w := by
 unfold DR at h ⊢
 cases e with
 | normal => exact fun a ha => (h a ha).imp fun v hv => ⟨hv.1, hi _ _ hv.2⟩
 | ret => exact fun a ha => (h a ha).imp fun v hv => ⟨hv.1, hi _ _ hv.2⟩
 | _ => exact h
def Em (l : List Op8) (k : Nat) : List Int := (kix l l.length k).map fun i : Nat => (i : Int)
theorem IB (l : List Op8) (k : Nat) : (Em l k).length = Ci l l.length k := by simp [Em]
def D22 (b8 b14 gn gf : Nat) (A' Bs : Nat → Option Addr) (b : Nat) : Prop := b < 4 ∨ (b = b8 ∨ b = b14 ∨ b = gn ∨ b = gf) ∨ (∃ k, k < 8 ∧ (A' k).map (·.block) = some b) ∨ (∃ k, k < 8 ∧ (Bs k).map (·.block) = some b)
section
variable {SB : Nat → Prop} {w0 w : World} {Wg : Nat} {o bud : Int} {l : List Op8} {b8 b14 gn gf : Nat} {Bs : Nat → Option Addr} {dz : Nat → Nat} {A' : Nat → Option Addr} {cc : Nat → Nat}
theorem F8 {F : FuncId → Prop} {D : Nat → Prop} {A : Option Addr} {n c : Nat} (h : ∀ b, A.map (·.block) = some b → D b) : VR F (idr D 0) (.slice A n c) (.slice A n c) := by
 cases A with
 | none => exact .slice0 _ _
 | some a => exact .slice _ _ ⟨FR (h _ rfl), rfl, rfl⟩
theorem XF (h : ZN SB w0 Wg o bud l b8 b14 gn gf Bs dz A' cc w) (hone : ∀ k, k < 8 → (Br o bud l k).code = 1 ∨ (Br o bud l k).code = 2) (hidx : ∀ k, k < 8 → ∀ i ∈ (Br o bud l k).ord, 0 ≤ i ∧ i < (Ci l l.length k : Int)) (hfew : ∀ k, k < 8 → (Br o bud l k).ord.length ≤ 10000) (t : Nat → Question → Nat) :
  RB (En (SF lcS) (D22 b8 b14 gn gf A' Bs) (fun b => b = b8) (w.tp t)) b8 b14 gf gn (fun k => (Br o bud l k).code) (fun k => (Br o bud l k).ord) (fun k => (Br o bud l k).ent) A' cc (Em l) Bs dz := by
 have cell : ∀ {a : Addr} {u : Value}, D22 b8 b14 gn gf A' Bs a.block → w.cell? a = some u → VR (SF lcS) (idr (D22 b8 b14 gn gf A' Bs) 0) u u → (En (SF lcS) (D22 b8 b14 gn gf A' Bs) (fun b => b = b8) (w.tp t)).cell? a = some u := fun hd hc hv => IK (w := w.tp t) hd hc hv
 have dgf : D22 b8 b14 gn gf A' Bs gf := .inr (.inl (by simp))
 have dgn : D22 b8 b14 gn gf A' Bs gn := .inr (.inl (by simp))
 have d14 : D22 b8 b14 gn gf A' Bs b14 := .inr (.inl (by simp))
 have d8 : D22 b8 b14 gn gf A' Bs b8 := .inr (.inl (by simp))
 refine ⟨cell d14 (by rw [h.h14.cell]; rfl) (F8 fun b hb => by cases hb; exact dgf), fun k hk => ?_, fun k hk => ?_, fun k hk => ?_, fun k hk => ?_, fun k hk => ?_, fun k hk => ?_, Ne.symm h.n8.1, Ne.symm h.n8.2.2, Ne.symm h.n8.2.1, ?_, hone, fun k hk i hi => ?_, hfew⟩
 ·rw [show 0 + k * 3 = 3 * k by omega]
  exact cell dgf (h.cells k hk).1 (.int _ _)
 ·rw [show 0 + k * 3 + 1 = 3 * k + 1 by omega]
  exact cell dgf (h.cells k hk).2.1 (F8 fun b hb => .inr (.inr (.inl ⟨k, hk, hb⟩)))
 ·rw [show 0 + k * 3 + 2 = 3 * k + 2 by omega]
  exact cell dgf (h.cells k hk).2.2 (.int _ _)
 ·refine cell dgn ?_ (F8 fun b hb => .inr (.inr (.inr ⟨k, hk, hb⟩)))
  rw [h.hn.cell, IB]
  exact EQ hk
 ·obtain ⟨h1, h2, h3, h4⟩ := h.ord k hk
  refine ⟨_, _, rfl, h1, h2, by simp [Ba], fun hpos => ?_⟩
  obtain ⟨b, hb, hc⟩ := h4 hpos
  obtain ⟨⟨_, _, _, hne⟩, _, _⟩ := h3 _ hb
  refine ⟨b, 0, hb, hne, fun j u hj => ?_⟩
  obtain ⟨x, hx, rfl⟩ : ∃ x, (Br o bud l k).ord[j]? = some x ∧ Value.int .i64 x = u := by
   unfold Ba at hj
   rw [List.getElem?_map] at hj
   exact Option.map_eq_some_iff.1 hj
  rw [Nat.zero_add]
  exact cell (.inr (.inr (.inl ⟨k, hk, by rw [hb]; rfl⟩))) (hc j x hx) (.int _ _)
 ·have hr := (Fh.self (h.nums k hk))
  obtain ⟨h0, hn, hcc, hh⟩ := hr
  have hrd := (h.nums k hk).rd
  obtain ⟨A1, c1, e1, g1, g2, g3, g4⟩ := hrd
  injection e1 with e1 e2 e3
  subst e1; subst e3
  rw [IB]
  refine ⟨_, _, rfl, g1, g2, g3, fun hpos => ?_⟩
  obtain ⟨b, o', hb, hd, hc⟩ := g4 hpos
  obtain ⟨⟨_, _, _, hne⟩, _, _⟩ := (h.nums k hk).blk hb
  refine ⟨b, o', hb, hne, fun j u hj => cell (.inr (.inr (.inr ⟨k, hk, hd⟩))) (hc j u hj) ?_⟩
  exact (by
   obtain ⟨i, _, rfl⟩ := List.mem_map.1 (List.mem_of_getElem? hj)
   exact .int _ _)
 ·refine XE (w := w.tp t) d8 rfl h.h8 fun u hu => ?_
  simp only [zV, List.mem_toArray, List.mem_cons, List.not_mem_nil, or_false] at hu
  rcases hu with rfl | rfl | rfl
  ·exact .int _ _
  ·exact .int _ _
  ·exact .slice0 _ _
 ·rw [IB]
  exact hidx k hk i hi
end
def ZJ (o bud : Int) (l : List Op8) (Q : Nat → Prop) (u : Value) (w : World) : Prop :=
 (∃ k : Nat, k < 8 ∧ (Br o bud l k).code = 2 ∧ (∀ j, j < k → (Br o bud l j).code = 1) ∧ u = .tuple #[.agg #[.int .i64 2, .int .i64 (k : Int), .slice none 0 0], .nilIface]) ∨
 ((∀ k, k < 8 → (Br o bud l k).code = 1) ∧ ∃ (g c : Nat) (cur : Array Value) (e : TypeId) (Cs : Nat → Option Addr) (es : Nat → Nat), u = .tuple #[.agg #[.int .i64 1, .int .i64 (-1), .slice (some ⟨g, 0, none⟩) 8 c], .nilIface] ∧ 8 ≤ c ∧ c ≤ 9223372036854775807 ∧ Q g ∧ w.heap[g]? = some (.cells cur e (0, 0)) ∧
  ∀ k, k < 8 → cur[k]? = some (.slice (Cs k) (Br o bud l k).ord.length (es k)) ∧ Fh Q w 3 1 (Cs k) (Br o bud l k).ord.length (es k) (Ba (Jm (fun k => (Br o bud l k).ord) (Em l) k)))
def QB (w0 : World) (Wg : Nat) (w : World) (b : Nat) : Prop := w0.heap.size ≤ b ∧ b < w.heap.size ∧ b ≠ Wg
def Aax (SB : Nat → Prop) (w0 : World) (Wg : Nat) (o bud : Int) (l : List Op8) (c0 : Frame) (cs0 : List Frame) (_ : Nat → Prop) (g : Goroutine) (w : World) : Prop :=
 ∃ u, g = G (c0.finish u) cs0 ∧ Kept SB w0 w ∧ Wg < w.heap.size ∧ ZJ o bud l (QB w0 Wg w) u w
theorem VA (l : List Int) : ∀ x ∈ Ba l, Gu x := fun x hx => by
 obtain ⟨i, _, rfl⟩ := List.mem_map.1 hx
 exact .int _ _
theorem Qv {ord : Nat → List Int} {Cs : Nat → Option Addr} {es : Nat → Nat} {n k : Nat} (hk : k < n) : (EJ ord Cs es n)[k]? = some (.slice (Cs k) (ord k).length (es k)) := by simp [EJ, hk]
section
variable {SB : Nat → Prop} {w0 w : World} {Wg : Nat} {o bud : Int} {l : List Op8} {b8 b14 gn gf : Nat} {Bs : Nat → Option Addr} {dz : Nat → Nat} {A' : Nat → Option Addr} {cc : Nat → Nat}
theorem Xh {F : FuncId → Prop} {π : Ren} {R Q : Nat → Prop} {u u' : Value} {v v0 w1 : World} (hW : WR F π R v w1) (hu : VR F π u u') (hown : ∀ k, k = b8 ∨ v0.heap.size ≤ k → ∀ k', π.to k = some k' → π.own k ∧ Q k')
  (hK : Wi b8 (fun k => (Br o bud l k).code) (fun k => (Br o bud l k).ord) (Em l) v0 (.returned u) v) : ZJ o bud l Q u' w1 := by
 rcases hK with ⟨k, hk, h2, h1, e, _⟩ | ⟨h1, A, c, Cs, es, e, hI⟩
 ·injection e with e
  subst e
  obtain ⟨y0, y1, rfl, h0, h3⟩ := Fp hu
  obtain ⟨z0, z1, z2, rfl, g0, g1, g2⟩ := Ia h0
  cases g0; cases g1; cases g2; cases h3
  exact .inl ⟨k, hk, h2, h1, rfl⟩
 ·injection e with e
  subst e
  obtain ⟨y0, y1, rfl, h0, h3⟩ := Fp hu
  obtain ⟨z0, z1, z2, rfl, g0, g1, g2⟩ := Ia h0
  cases g0; cases g1; cases h3
  have hr : v.ownsRow 0 24 1 (.slice A 8 c) 8 (EJ (fun k => (Br o bud l k).ord) Cs es 8) := (hI.ok _ (List.mem_cons_self ..)).1
  have hm := (hI.ok (AY 8 (OQ (fun k => (Br o bud l k).ord) (Em l) Cs es)) (by simp)).1.1
  obtain ⟨hlen, ⟨_, h8⟩ | ⟨g, cap, cur, e1, hb, hcur, hn, hcap, hsz, htk⟩⟩ := hr
  ·omega
  ·injection e1 with e1 e2 e3
   subst e1
   subst e3
   obtain ⟨g', rfl, hg⟩ := F6 g2
   obtain ⟨ho, hq⟩ := hown g (hI.own _ (List.mem_cons_self ..) g rfl) g' hg
   obtain ⟨cur', q3, q4⟩ := Ri hW hg ho hcur
   have e63 : maxLen ≤ 9223372036854775807 := by decide
   have key : ∀ k, ∃ A', k < 8 → cur'[k]? = some (.slice A' (Br o bud l k).ord.length (es k)) ∧ Fh Q w1 3 1 A' (Br o bud l k).ord.length (es k) (Ba (Jm (fun k => (Br o bud l k).ord) (Em l) k)) := by
    intro k
    by_cases hk : k < 8
    ·have hci : cur[k]? = some (.slice (Cs k) (Br o bud l k).ord.length (es k)) := by
      have e5 : (cur.toList.take (8 * 1))[k]? = (EJ (fun k => (Br o bud l k).ord) Cs es 8)[k]? := by rw [htk]
      rw [List.getElem?_take_of_lt (by omega), Array.getElem?_toList] at e5
      rw [e5]
      exact Qv hk
     obtain ⟨y, hy, hvr⟩ := q4.get hci
     obtain ⟨A', rfl, hrow⟩ := O0 hW (VA _) (fun q q' hq hp => (hown q (hI.own (AY 8 (OQ (fun k => (Br o bud l k).ord) (Em l) Cs es)) (by simp) q ⟨k, hk, hq⟩) q' hp).1) (hm k hk).1 hvr
     exact ⟨A', fun _ => ⟨hy, hrow.keep fun b ⟨q, h1, h2, h3⟩ _ => ⟨(hown q (hI.own (AY 8 (OQ (fun k => (Br o bud l k).ord) (Em l) Cs es)) (by simp) q ⟨k, hk, h1⟩) b h2).2, rfl⟩⟩⟩
    ·exact ⟨none, fun hh => absurd hh hk⟩
   exact .inr ⟨h1, g', c, cur', _, fun k => Classical.choose (key k), es, rfl, hn, by omega, hq, q3, fun k hk => Classical.choose_spec (key k) hk⟩
end
theorem YO : lcS.item Tryd.prog (.code s22) = true := by
 unfold s22 s8 Aq
 rw [Tryd.f7]
 dsimp only [Option.getD_some]
 kernel_rfl
section
variable {SB : Nat → Prop} {w0 w : World} {Wg : Nat} {o bud : Int} {l : List Op8} {b8 b14 gn gf : Nat} {Bs : Nat → Option Addr} {dz : Nat → Nat} {A' : Nat → Option Addr} {cc : Nat → Nat} {c0 : Frame} {cs0 : List Frame} {T : Array Value}
theorem Uz (hT : T7 b8 gn b14 T) (h : ZN SB w0 Wg o bud l b8 b14 gn gf Bs dz A' cc w) (hgl : ∀ g, g < 4 → (∃ cs e f, w.heap[g]? = some (.cells cs e f)) ∧ g < w0.heap.size ∧ ¬ SB g) (hgsz : Tryd.prog.globals.size ≤ w.heap.size) (hSB : ∀ b, SB b → b < w0.heap.size)
  (hone : ∀ k, k < 8 → (Br o bud l k).code = 1 ∨ (Br o bud l k).code = 2) (hidx : ∀ k, k < 8 → ∀ i ∈ (Br o bud l k).ord, 0 ≤ i ∧ i < (Ci l l.length k : Int)) (hfew : ∀ k, k < 8 → (Br o bud l k).ord.length ≤ 10000) :
  Own Tryd.prog true (RK (fun b => SB b ∨ b = Wg) w) (fun _ => True) (fun _ => False) (Aax SB w0 Wg o bud l c0 cs0) (fun b => b = b8) (G7 T (c0 :: cs0)) w := by
 unfold G7
 have hd : (AA[0]?).bind (·.dst) = some 78 := by simp only [A8, A7, AC, AL, AZ, Au, AV, AU, AJ, AQ, AB, AA, Bq, s15, Bn, s20, s22, s10, s8, Aq, Tryd.f7, Option.getD_some]; rfl
 rw [hd]
 refine Own.move rfl (fun w1 => stepG_region_end) fun w1 hr => Own.rely ?_ hr
 have hf := (Hr hT.size).put (d := 78) (by omega) (.tuple #[])
 have ha := QS hf
 have hTs : ((⟨T, []⟩ : Act).put (some 78) (.tuple #[])).tmps.size = 135 := hf.size
 have get : ∀ i v, i < 135 → i ≠ 78 → T[i]? = some v → ((⟨T, []⟩ : Act).put (some 78) (.tuple #[])).tmps[i]? = some v := fun i v hi hn hv => by
  have e1 := hf.get i
  have e2 : upd (fun i => T.getD i undef) 78 (.tuple #[]) i = v := by
   unfold upd
   have hb : Nat.beq i 78 = false := by
    cases hh : Nat.beq i 78 with
    | false => rfl
    | true => exact absurd (Nat.eq_of_beq_eq_true hh) hn
   rw [hb]
   show T.getD i undef = v
   rw [Array.getD_eq_getD_getElem?, hv]
   rfl
  rw [e2, Array.getD_eq_getD_getElem?] at e1
  have e3 : i < ((⟨T, []⟩ : Act).put (some 78) (.tuple #[])).tmps.size := by rw [hTs]; exact hi
  rw [Array.getElem?_eq_getElem e3] at e1 ⊢
  exact congrArg some e1
 have t8 := get 8 _ (by omega) (by omega) hT.t8
 have t13 := get 13 _ (by omega) (by omega) hT.t13
 have t14 := get 14 _ (by omega) (by omega) hT.t14
 rw [ha]
 generalize ((⟨T, []⟩ : Act).put (some 78) (.tuple #[])).tmps = T2 at hTs t8 t13 t14 ⊢
 clear get ha hf
 have hm := fun b hb => h.mem b hb
 have e22 : ∀ b, D22 b8 b14 gn gf A' Bs b → b ≠ b8 → RK (fun b => SB b ∨ b = Wg) w b := by
  intro b hb hn
  rcases hb with hb | hb | ⟨k, hk, hb⟩ | ⟨k, hk, hb⟩
  ·obtain ⟨⟨cs, e, f, hc⟩, h2, h3⟩ := hgl b hb
   refine ⟨(Array.getElem?_eq_some_iff.1 hc).1, fun h4 => h4.elim h3 fun e => ?_⟩
   have := h.wg.1
   omega
  ·obtain ⟨h1, h2, h3⟩ := hm b hb
   exact ⟨h2, fun h4 => h4.elim (fun hs => by have := hSB b hs; omega) h3⟩
  ·obtain ⟨a, ha, rfl⟩ := Option.map_eq_some_iff.1 hb
   obtain ⟨⟨h1, h2, h3, h4⟩, _⟩ := (h.ord k hk).2.2.1 a ha
   exact ⟨h2, fun h5 => h5.elim (fun hs => by have := hSB _ hs; omega) h3⟩
  ·obtain ⟨a, ha, rfl⟩ := Option.map_eq_some_iff.1 hb
   obtain ⟨⟨h1, h2, h3, h4⟩, _⟩ := (h.nums k hk).blk ha
   exact ⟨h2, fun h5 => h5.elim (fun hs => by have := hSB _ hs; omega) h3⟩
 have hC : E5 (RK (fun b => SB b ∨ b = Wg) w) (fun b => b = b8) w (D22 b8 b14 gn gf A' Bs) (fun b => b = b8) := by
  refine ⟨e22, fun k _ hk => hk, fun b hb => ?_⟩
  rcases hb with hb | hb | ⟨k, hk, hb⟩ | ⟨k, hk, hb⟩
  ·exact (hgl b hb).1
  ·rcases hb with rfl | rfl | rfl | rfl
   ·exact ⟨_, _, _, h.h8⟩
   ·exact ⟨_, _, _, h.h14⟩
   ·exact ⟨_, _, _, h.hn⟩
   ·obtain ⟨cs, e, hc⟩ := h.hf; exact ⟨_, _, _, hc⟩
  ·obtain ⟨a, ha, rfl⟩ := Option.map_eq_some_iff.1 hb
   exact ((h.ord k hk).2.2.1 a ha).2.2
  ·obtain ⟨a, ha, rfl⟩ := Option.map_eq_some_iff.1 hb
   obtain ⟨_, _, cs, f, hc⟩ := (h.nums k hk).blk ha
   exact ⟨_, _, _, hc⟩
 have hb8 := hm b8 (.inl rfl)
 have hlow : ∀ M' : Nat → Prop, (∀ k, M' k → k = b8 ∨ w.heap.size ≤ k) → ∀ k, M' k → w0.heap.size ≤ k := fun M' hM k hk => (hM k hk).elim (fun e => by rw [e]; exact hb8.1) fun e => Nat.le_trans h.kept.size e
 have d8 : D22 b8 b14 gn gf A' Bs b8 := .inr (.inl (by simp))
 have dgn : D22 b8 b14 gn gf A' Bs gn := .inr (.inl (by simp))
 have d14 : D22 b8 b14 gn gf A' Bs b14 := .inr (.inl (by simp))
 have vp : ∀ b, D22 b8 b14 gn gf A' Bs b → VR (SF lcS) (idr (D22 b8 b14 gn gf A' Bs) 0) (.pointer (some ⟨b, 0, none⟩)) (.pointer (some ⟨b, 0, none⟩)) := fun b hb => .ptr ⟨FR hb, rfl, rfl⟩
 have hn : Tryd.f7.ntmps = 135 := by kernel_rfl
 have hg : Good Tryd.prog (fun u v => ∃ t, Wi b8 (fun k => (Br o bud l k).code) (fun k => (Br o bud l k).ord) (Em l) (En (SF lcS) (D22 b8 b14 gn gf A' Bs) (fun b => b = b8) (w.tp t)) (.returned u) v) ⟨fm 7 (vwT (SF lcS) (D22 b8 b14 gn gf A' Bs) T2) [.code s22], [], En (SF lcS) (D22 b8 b14 gn gf A' Bs) (fun b => b = b8) w⟩ := by
  refine Sn (R := fun en v => ∃ t, Wi b8 (fun k => (Br o bud l k).code) (fun k => (Br o bud l k).ord) (Em l) (En (SF lcS) (D22 b8 b14 gn gf A' Bs) (fun b => b = b8) (w.tp t)) en v) Tryd.func7 (by rw [hn, ← hTs]; simp [vwT]) fun t => ?_
  refine Oa (Tx (XF h hone hidx hfew t) ⟨Gx t8 (vp _ d8), Gx t13 (F8 fun b hb => by cases hb; exact dgn), Gx t14 (vp _ d14), trivial⟩) fun e ρ v hh => ?_
  exact Ud hh fun en v' hs => ⟨t, hs⟩
 refine MF (K := fun u v => ∃ t, Wi b8 (fun k => (Br o bud l k).code) (fun k => (Br o bud l k).ord) (Em l) (En (SF lcS) (D22 b8 b14 gn gf A' Bs) (fun b => b = b8) (w.tp t)) (.returned u) v) (D := D22 b8 b14 gn gf A' Bs) (O := fun b => b = b8) (fun w1 => Kept SB w0 w1 ∧ w.heap.size ≤ w1.heap.size) (fun M w1 w2 r hh => ⟨?_, Nat.le_trans hh.2 r.size⟩) (fun M' w1 w2 hM s hh => ⟨hh.1.spares (hlow M' hM) s, Nat.le_trans hh.2 s.size⟩) ⟨h.kept, Nat.le_refl _⟩
  IJ Tryd.func7 (fun it hit => by rw [List.mem_singleton.1 hit]; exact YO) hgsz (fun g hg => .inl (by simpa [lcS] using hg)) hC (SX _ _ T2) hg ?_
 ·refine ⟨Nat.le_trans hh.1.size r.size, fun b h1 h2 => ?_, r.tape.trans hh.1.tape, r.os.trans hh.1.os, r.out.trans hh.1.out⟩
  have h3 := h.wg.1
  have h4 := h.kept.size
  exact (r.mine b (.inr ⟨by omega, fun h5 => h5.elim h2 (by omega)⟩)).trans (hh.1.blk b h1 h2)
 ·rintro π u u' v w1 M' hle hu ⟨t, hK⟩ hW hown hM0 hMb ⟨hJ, hJs⟩
  refine .stop fun w2 r2 => ?_
  have hW2 : WR (SF lcS) π (RK (fun b => SB b ∨ b = Wg) w) v w2 := hW.rely hown r2
  have hk2 : Kept SB w0 w2 := by
   refine ⟨Nat.le_trans hJ.size r2.size, fun b h1 h2 => ?_, r2.tape.trans hJ.tape, r2.os.trans hJ.os, r2.out.trans hJ.out⟩
   have h3 := h.wg.1
   have h4 := h.kept.size
   exact (r2.mine b (.inr ⟨by omega, fun h5 => h5.elim h2 (by omega)⟩)).trans (hJ.blk b h1 h2)
  have hs2 : w.heap.size ≤ w2.heap.size := Nat.le_trans hJs r2.size
  refine ⟨u', rfl, hk2, Nat.lt_of_lt_of_le h.wg.2 hs2, Xh hW2 hu (fun k hk k' hp => ?_) hK⟩
  have hk' : k' < w2.heap.size := (hW2.dom k k' hp).2
  have ho : π.own k := by
   rcases hk with rfl | hk
   ·exact hle.own _ ⟨d8, rfl⟩
   ·have hk : w.heap.size ≤ k := by
     have e : (En (SF lcS) (D22 b8 b14 gn gf A' Bs) (fun b => b = b8) (w.tp t)).heap.size = w.heap.size := Gj (w := w.tp t)
     omega
    exact (NC hle hW2 (fun b hb => hb.1) hk hp).2.1
  refine ⟨ho, ?_⟩
  have hmk := hown k k' hp ho
  rcases hMb k' hmk with hb | hb
  ·have hb : k' = b8 := hb
   rw [hb]
   exact ⟨hb8.1, by omega, hb8.2.2⟩
  ·have h5 := h.wg.2
   exact ⟨Nat.le_trans h.kept.size hb, hk', by omega⟩
end
section
variable {SB : Nat → Prop} {w : World} {o bud : Int} {l : List Op8} {A : Option Addr} {n c : Nat} {c0 : Frame} {cs0 : List Frame} {z wkn : Nat}
def AaB (SB : Nat → Prop) (w0 : World) (o bud : Int) (l : List Op8) (c0 : Frame) (cs0 : List Frame) (SB' : Nat → Prop) (g : Goroutine) (w : World) : Prop :=
 ∃ Wg u, SB' = (fun b => SB b ∨ b = Wg) ∧ w0.heap.size ≤ Wg ∧ Wg < w.heap.size ∧ g = G (c0.finish u) cs0 ∧ Kept SB w0 w ∧ ZJ o bud l (QB w0 Wg w) u w
def ZM (SB : Nat → Prop) (w0 : World) (c0 : Frame) (cs0 : List Frame) (SB' : Nat → Prop) (g : Goroutine) (w : World) : Prop :=
 SB' = SB ∧ ∃ x, FZ x ∧ g = G (c0.finish (.tuple #[.agg zV.toArray, x])) cs0 ∧ Kept SB w0 w
theorem Mi {wk : Int} {M : Nat → Prop} {g : Goroutine} {w0 : World} (h : StopA SB w0 o bud wk l c0 cs0 M g w) : g.status = .running := by
 rcases h with ⟨_, x, _, rfl, _⟩ | ⟨_, T, b4, b6, b8, b12, b14, gp, gn, gf, As, cz, Bs, dz, Ch, bk, rfl, _⟩
 ·rfl
 ·rfl
theorem SA (C : DN SB w A n c l) (hl : l.length ≤ 10000) (hb0 : 0 ≤ bud) (hb1 : bud ≤ 1000000) (hw0 : 1 ≤ wkn) (hw1 : wkn ≤ 64) (hz0 : 0 < z) (hz1 : z ≤ 1000) (hok : BA o l 0)
  (hone : ∀ k, k < 8 → (Br o bud l k).code = 1 ∨ (Br o bud l k).code = 2) (hidx : ∀ k, k < 8 → ∀ i ∈ (Br o bud l k).ord, 0 ≤ i ∧ i < (Ci l l.length k : Int)) (hfew : ∀ k, k < 8 → (Br o bud l k).ord.length ≤ 10000) :
  MBX Tryd.prog SB z (z + wkn) (In7 #[.int .i64 o, .slice A n c, .int .i64 bud, .int .i64 (wkn : Int)] (c0 :: cs0)) w (AaB SB w o bud l c0 cs0) := by
 have hS : ∀ k, SB k → k < w.heap.size := fun k hk => (C.sb k hk).1
 refine MBX.bind (MB.x (MB.own (fun _ _ h => h) (Rh C hl hb0 hb1 (wk := (wkn : Int)) (by omega) (by omega)) (fun M a w' h => Mi h) (fun k hk => hk.elim) (fun k hk => hk) hS)) ?_
 rintro SB1 g1 w1 ⟨rfl, hs1, M1, hM1, h1⟩
 rcases h1 with ⟨hno, _⟩ | ⟨_, h9⟩
 ·exact absurd hok hno
 refine MBX.bind (Y2 C h9 hM1 hz0 hz1 hw0 hw1) ?_
 rintro SB2 g2 w2 ⟨T, Wg, b8, b14, gn, gf, Bs, dz, A', cc, rfl, hT, rfl, h22⟩
 have C2 : DN (fun b => SB1 b ∨ b = Wg) w2 A n c l := C.kept h22.kept fun b hb => hb.imp id fun e => by rw [e]; exact h22.wg
 refine MBX.mono (MB.x (MB.own (fun _ _ h => h) (Uz hT h22 (fun g hg => ⟨C2.gl g hg, C.lt (.inr hg)⟩) C2.gsz hS hone hidx hfew) (fun M a w' h => ?_) (fun k hk => ?_) (fun k hk => hk) (fun k hk => (C2.sb k hk).1))) ?_
 ·obtain ⟨u, rfl, _⟩ := h
  rfl
 ·have hk : k = b8 := hk
  subst hk
  obtain ⟨q1, q2, q3⟩ := h22.mem k (.inl rfl)
  exact ⟨q2, fun h => h.elim (fun h => by have := hS k h; omega) q3⟩
 ·rintro SB3 g3 w3 ⟨rfl, hs3, M3, hM3, u, rfl, hk3, hwg, hout⟩
  exact ⟨Wg, u, rfl, h22.wg.1, hwg, rfl, hk3, hout⟩
theorem QN (C : DN SB w A n c l) (hl : l.length ≤ 10000) (hb0 : 0 ≤ bud) (hb1 : bud ≤ 1000000) (hw0 : 1 ≤ wkn) (hw1 : wkn ≤ 64) (hno : ¬ BA o l 0) :
  MBX Tryd.prog SB z z (In7 #[.int .i64 o, .slice A n c, .int .i64 bud, .int .i64 (wkn : Int)] (c0 :: cs0)) w (ZM SB w c0 cs0) := by
 have hS : ∀ k, SB k → k < w.heap.size := fun k hk => (C.sb k hk).1
 refine MBX.mono (MB.x (MB.own (fun _ _ h => h) (Rh C hl hb0 hb1 (wk := (wkn : Int)) (by omega) (by omega)) (fun M a w' h => Mi h) (fun k hk => hk.elim) (fun k hk => hk) hS)) ?_
 rintro SB1 g1 w1 ⟨rfl, hs1, M1, hM1, h1⟩
 rcases h1 with ⟨_, x, hx, rfl, hk, _⟩ | ⟨hok, _⟩
 ·exact ⟨rfl, x, hx, rfl, hk⟩
 ·exact absurd hok hno
end
end Go.Proofs.YtkkmokodaejheaaDoor
namespace Go.Proofs.YtkkmokodaejheaaDoor
open Go Go.RowKit
theorem GJ {l : List Op8} {k i : Nat} (h : i < k) : oAt (l.take k) i = oAt l i := by
 unfold oAt
 rw [List.getD_eq_getElem?_getD, List.getD_eq_getElem?_getD, List.getElem?_take_of_lt h]
theorem NQ {l : List Op8} {I : List Nat} {j : Nat} (h : j < I.length) : oAt (I.map (oAt l)) j = oAt l I[j] := by
 show (I.map (oAt l)).getD j _ = _
 rw [List.getD_eq_getElem?_getD, List.getElem?_map, List.getElem?_eq_getElem h]
 rfl
theorem Si {l : List Op8} (h : FY l) : ∀ j i, i < j → j < l.length → (oAt l i).call < (oAt l j).call := by
 intro j
 induction j with
 | zero => intro i hi; omega
 | succ j ih =>
  intro i hi hj
  have h1 : (oAt l j).call < (oAt l (j + 1)).call := by
   obtain ⟨_, _, ⟨_, hk, _, _⟩, _, _⟩ := h.2 (j + 1) hj
   have hlen : (l.take (j + 1)).length = j + 1 := by rw [List.length_take]; omega
   rw [hlen, show j + 1 - 1 = j by omega, GJ (by omega)] at hk
   exact Int.lt_of_not_ge fun hh => hk ⟨by omega, hh⟩
  rcases Nat.lt_or_ge i j with h2 | h2
  ·exact Int.lt_trans (ih i h2 (by omega)) h1
  ·rw [show i = j by omega]; exact h1
theorem Sg {l : List Op8} {I : List Nat} (h : FY l) (hI : I.Pairwise (· < ·)) (hl : ∀ i ∈ I, i < l.length) (hlen : I.length ≤ l.length) : FY (I.map (oAt l)) := by
 refine ⟨by rw [List.length_map]; exact Nat.le_trans hlen h.1, fun j hj => ?_⟩
 rw [List.length_map] at hj
 have hjl := hl I[j] (List.getElem_mem hj)
 obtain ⟨h1, h2, ⟨h3, h4, h5, h6⟩, h7, h8⟩ := h.2 I[j] hjl
 rw [NQ hj]
 have htl : ((I.map (oAt l)).take j).length = j := by rw [List.length_take, List.length_map]; omega
 have hlt : (l.take I[j]).length = I[j] := by rw [List.length_take]; omega
 have key : ∀ q (hq : q < j), oAt ((I.map (oAt l)).take j) q = oAt l (I[q]'(by omega)) ∧ I[q]'(by omega) < I[j] := fun q hq =>
  ⟨by rw [GJ hq, NQ (by omega)], List.pairwise_iff_getElem.1 hI q j (by omega) hj hq⟩
 refine ⟨h1, h2, ⟨h3, fun hh => ?_, h5, h6⟩, fun q hq => ?_, fun q hq hp => ?_⟩
 ·rw [htl] at hh
  obtain ⟨q1, q2⟩ := key (j - 1) (by omega)
  rw [q1] at hh
  have := Si h I[j] _ q2 hjl
  omega
 ·rw [htl] at hq
  obtain ⟨q1, q2⟩ := key q hq
  rw [q1, ← GJ (l := l) q2]
  exact h7 _ (by rw [hlt]; exact q2)
 ·rw [htl] at hq
  obtain ⟨q1, q2⟩ := key q hq
  rw [q1] at hp ⊢
  rw [← GJ (l := l) q2] at hp ⊢
  exact h8 _ (by rw [hlt]; exact q2) hp
theorem Rs {l : List Op8} {n k i : Nat} (h : i ∈ kix l n k) : i < n ∧ (oAt l i).key = (k : Int) := by
 unfold kix at h
 obtain ⟨h1, h2⟩ := List.mem_filter.1 h
 exact ⟨List.mem_range.1 h1, by simpa using h2⟩
theorem Rt (l : List Op8) (n k : Nat) : (kix l n k).Pairwise (· < ·) := List.Pairwise.filter _ List.pairwise_lt_range
theorem Ke {o : Int} {l : List Op8} (h : BA o l 0) (k : Nat) {bud : Int} (hb0 : 0 ≤ bud) (hb1 : bud ≤ 1000000) : BA o (Dm l k) bud := by
 obtain ⟨h1, h2, _, _, h5, h6⟩ := h
 refine ⟨h1, h2, hb0, hb1, Sg h5 (Rt l _ k) (fun i hi => (Rs hi).1) (QD l _ k), fun j hj => ?_⟩
 unfold Dm at hj ⊢
 rw [List.length_map] at hj
 rw [NQ hj]
 exact h6 _ (Rs (List.getElem_mem hj)).1
section
variable {o : Int} {l : List Op8} (hok : BA o l 0) (hl : l.length ≤ 8) (k : Nat)
include hok hl
theorem IL : Br o 1000000 l k = ⟨(Bj o (Dm l k) BN 1000000).1, F3 (Bj o (Dm l k) BN 1000000), (Bj o (Dm l k) BN 1000000).2.ent.length⟩ := by
 have := Ke hok k (bud := 1000000) (by omega) (by omega)
 unfold Br Da
 exact if_pos this
theorem Rj : (Dm l k).length ≤ 8 := by
 rw [Iz]
 exact Nat.le_trans (QD l _ k) hl
theorem Zu : (Br o 1000000 l k).code = 1 ∨ (Br o 1000000 l k).code = 2 := by
 rw [IL hok hl k]
 have h3 := PU (o := o) (l := Dm l k) (ab := BN) (bud := 1000000) (Rj hok hl k) (by omega)
 have hc := Lf (o := o) (l := Dm l k) (ab := BN) (bud := 1000000) ((Dm l k).length + 1) (BJ o)
 rcases hc with hc | hc | hc
 ·exact .inl hc
 ·exact .inr hc
 ·exact absurd hc h3
theorem Yk : ∀ i ∈ (Br o 1000000 l k).ord, 0 ≤ i ∧ i < (Ci l l.length k : Int) := by
 rw [IL hok hl k]
 show ∀ i ∈ F3 (Bj o (Dm l k) BN 1000000), _
 unfold F3
 split
 ·next h =>
  intro i hi
  have := (Kt h).2.rng i hi
  rw [Iz] at this
  exact this
 ·intro i hi; cases hi
theorem Yo : (Br o 1000000 l k).ord.length ≤ 10000 := by
 rw [IL hok hl k]
 show (F3 (Bj o (Dm l k) BN 1000000)).length ≤ 10000
 unfold F3
 split
 ·have h2 : (Bj o (Dm l k) BN 1000000).2.ord.length ≤ (BJ o).ord.length + ((Dm l k).length + 1) := M7 ((Dm l k).length + 1) (BJ o)
  have h3 : (BJ o).ord.length = 0 := rfl
  have := Rj hok hl k
  omega
 ·simp
theorem WN (h : (Br o 1000000 l k).code = 1) : H5 o (Dm l k) (Br o 1000000 l k).ord := by
 have hh := Ke hok k (bud := 1000000) (by omega) (by omega)
 rw [IL hok hl k] at h ⊢
 have h : (Bj o (Dm l k) BN 1000000).1 = 1 := h
 show H5 o (Dm l k) (F3 (Bj o (Dm l k) BN 1000000))
 unfold F3
 rw [if_pos h]
 exact PT (VU hh) h
end
end Go.Proofs.YtkkmokodaejheaaDoor
namespace Go.Proofs.YtkkmokodaejheaaDoor
open Go.RowKit
noncomputable def CW : Code := Tryd.f4.body.getD .skip
noncomputable def s3 : Code := match CW with | .seq _ (.seq _ c) => c | _ => .skip
noncomputable def CJ : Array Oper := match s3 with | .seq (.region _ o _) _ => o | _ => #[]
noncomputable def CK : Code := match s3 with | .seq _ c => c | _ => .skip
noncomputable def s7 : Code := match CK with | .seq _ (.seq _ c) => c | _ => .skip
structure Fa4 (w0 : World) (o : Int) (l : List Op8) (b5 gp gn : Nat) (code key : Int) (vo : Value) (As : Nat → Option Addr) (cs : Nat → Nat) (Bs : Nat → Option Addr) (ds : Nat → Nat) : Prop where
 ok : BA o l 0
 le : l.length ≤ 8
 cC : w0.cell? ⟨b5, 0, none⟩ = some (.int .i64 code)
 kC : w0.cell? ⟨b5, 1, none⟩ = some (.int .i64 key)
 oC : w0.cell? ⟨b5, 2, none⟩ = some vo
 pC : ∀ k, k < 8 → w0.cell? ⟨gp, k, none⟩ = some (.slice (As k) (Ci l l.length k) (cs k))
 nC : ∀ k, k < 8 → w0.cell? ⟨gn, k, none⟩ = some (.slice (Bs k) (Ci l l.length k) (ds k))
 part : ∀ k, k < 8 → BK w0 (fun _ => True) (.slice (As k) (Ci l l.length k) (cs k)) (Dm l k)
 num : ∀ k, k < 8 → Rd w0 (fun _ => True) 1 (.slice (Bs k) (Ci l l.length k) (ds k)) (Ci l l.length k) (Ba (Em l k))
 kn : Dq w0
structure Or4 (w0 : World) (o : Int) (l : List Op8) (g : Nat) (Cs : Nat → Option Addr) (es : Nat → Nat) : Prop where
 cell : ∀ k, k < 8 → w0.cell? ⟨g, k, none⟩ = some (.slice (Cs k) (Br o 1000000 l k).ord.length (es k))
 row : ∀ k, k < 8 → Rd w0 (fun _ => True) 1 (.slice (Cs k) (Br o 1000000 l k).ord.length (es k)) (Br o 1000000 l k).ord.length (Ba (Jm (fun k => (Br o 1000000 l k).ord) (Em l) k))
 one : ∀ k, k < 8 → (Br o 1000000 l k).code = 1
section
variable {w0 : World} {o : Int} {l : List Op8} {b5 gp gn : Nat} {code key : Int} {vo : Value} {As : Nat → Option Addr} {cs : Nat → Nat} {Bs : Nat → Option Addr} {ds : Nat → Nat} {ρ : Env}
abbrev Sl4 (o : Int) (b5 gp gn : Nat) : List (Nat × Value) := [(0, .int .i64 o), (5, .pointer (some ⟨b5, 0, none⟩)), (7, .slice (some ⟨gp, 0, none⟩) 8 8), (8, .slice (some ⟨gn, 0, none⟩) 8 8)]
set_option maxHeartbeats 2000000 in
theorem U8 {k : Nat} {vo : Value} (F : Fa4 w0 o l b5 gp gn 2 (k : Int) vo As cs Bs ds) (hk8 : k < 8) (h2 : (Br o 1000000 l k).code = 2) (hH : Has ρ (Sl4 o b5 gp gn)) :
  W Tryd.prog Tryd.f4.ntmps s7 (DR Tryd.prog Tryd.f4 (fun en _ => en = .returned (.bool true))) ρ w0 := by
 obtain ⟨σ, rfl⟩ := hH.open
 have hI := Inv.start (fun _ => False) w0
 have hokK := Ke F.ok k (bud := 1000000) (by omega) (by omega)
 have h2' : (Bj o (Dm l k) BN 1000000).1 = 2 := by rw [IL F.ok F.le k] at h2; exact h2
 unfold s7 CK s3 CW
 rw [Tryd.f4]
 dsimp only [Option.getD_some]
 refine Ac (Ac (Ab (V7 0 rfl (V3 (.int .i64 _) rfl (hI.oldp F.cC) (Vu rfl (Aa (Ad true rfl (Ac (Ac (Ab (V7 1 rfl (V3 (.int .i64 _) rfl (hI.oldp F.kC) (Vo rfl ?_)))))))))))))
 refine V5 rfl (V7 1 rfl (V3 (.int .i64 _) rfl (hI.oldp F.kC) (V8 rfl (Vi rfl Tryd.underlying39 rfl (Tg rfl (Vd rfl (Aa (Ad false rfl (Ah (Ac (Ab (V0 rfl (V8 rfl ?_)))))))))))))
 refine V7 1 rfl (V3 (.int .i64 _) rfl (hI.oldp F.kC) (Tb rfl Tryd.underlying39 rfl (V3 (.slice _ _ _) rfl (hI.oldp (F.pC k hk8)) (Va [.int .i64 _, .slice _ _ _, .int .i64 _] rfl Tryd.func6 rfl ?_))))
 refine (Ki o (As k) (Ci l l.length k) (cs k) (Dm l k) 1000000 (fun _ => True) _ ((F.part k hk8).pure hI.pu) (F.kn.pure hI.pu)).mono ?_
 rintro e w1 (⟨_, A', c', rfl, hT⟩ | ⟨h1, _⟩)
 rotate_left
 ·exact absurd hokK h1
 rw [show (1000000 : Int).toNat = 1000000 from rfl] at hT ⊢
 generalize Bj o (Dm l k) BN 1000000 = R at hT h2' ⊢
 obtain ⟨z, s'⟩ := R
 simp only at h2'
 subst h2'
 refine ⟨_, rfl, ?_⟩
 replace hI := hI.app1 hT
 refine Ta rfl (Vk rfl (Vk rfl (Vw (.agg #[.int .i64 0, .slice none 0 0, .int .i64 0]) (#[.int .i64 0, .slice none 0 0, .int .i64 0]) hI rfl ?_)))
 clear hI; rintro b9 w - - hI
 refine Vz 3 (#[_, _, _]) (.agg _) hI rfl ?_
 clear hI; intro w hI
 refine Vy rfl (Aa (Ac (Ab ?_)))
 refine Af rfl rfl rfl (by exact Fb rfl rfl) ?_
 refine Af rfl rfl rfl (by exact Qo rfl Tryd.underlying28 rfl) ?_
 refine V5 rfl (V7 0 rfl (V3 (.int .i64 _) rfl (hI.c0 rfl) (Vu rfl (Vg rfl (V6 rfl (Aa ?_))))))
 refine Aj ?_
 exact Bw 4 (.inr rfl) rfl rfl
end
theorem UL {l : List Op8} {k i j : Nat} (hi : i < (Em l k).length) (hj : j < (Em l k).length) (h : (Em l k)[i] = (Em l k)[j]) : i = j := by
 have hp := Rt l l.length k
 unfold Em at hi hj h
 rw [List.length_map] at hi hj
 rw [List.getElem_map, List.getElem_map] at h
 rcases Nat.lt_trichotomy i j with h1 | h1 | h1
 ·have := List.pairwise_iff_getElem.1 hp i j hi hj h1
  omega
 ·exact h1
 ·have := List.pairwise_iff_getElem.1 hp j i hj hi h1
  omega
section
variable {w0 : World} {o : Int} {l : List Op8} {b5 gp gn : Nat} {As : Nat → Option Addr} {cs : Nat → Nat} {Bs : Nat → Option Addr} {ds : Nat → Nat} {ρ : Env} {g co : Nat} {Cs : Nat → Option Addr} {es : Nat → Nat}
set_option maxHeartbeats 8000000 in
theorem UC (F : Fa4 w0 o l b5 gp gn 1 (-1) (.slice (some ⟨g, 0, none⟩) 8 co) As cs Bs ds) (O : Or4 w0 o l g Cs es) (hH : Has ρ (Sl4 o b5 gp gn)) :
  W Tryd.prog Tryd.f4.ntmps s7 (DR Tryd.prog Tryd.f4 (fun en _ => en = .returned (.bool true))) ρ w0 := by
 obtain ⟨σ, rfl⟩ := hH.open
 have hI := Inv.start (fun _ => False) w0
 unfold s7 CK s3 CW
 rw [Tryd.f4]
 dsimp only [Option.getD_some]
 refine Ac (Ac (Ab (V7 0 rfl (V3 (.int .i64 _) rfl (hI.oldp F.cC) (Vj rfl (Aa (Ad false rfl (Ah (Ac (Ac (Ab (V7 2 rfl (V3 (.slice _ _ _) rfl (hI.oldp F.oC) ?_)))))))))))))
 refine Vi rfl Tryd.underlying31 rfl (V8 rfl (Vi rfl Tryd.underlying39 rfl (Tl rfl (V5 rfl (V8 rfl (Vi rfl Tryd.underlying31 rfl (V8 rfl (Vi rfl Tryd.underlying39 rfl (Tl rfl (Vd rfl (Aa (Ad false rfl (Ah ?_)))))))))))))
 refine Ac (Ac (Ab (V9 rfl (Aa (Al ?_)))))
 refine Ff (fun ρ w => ∃ k : Nat, k ≤ 8 ∧ Has ρ ((11, .int .i64 (k : Int)) :: Sl4 o b5 gp gn) ∧ Inv (fun _ => False) w0 w []) (fun ρ _ => 8 - cnt (ρ 11)) ⟨0, by omega, ⟨rfl, rfl, rfl, rfl, rfl, trivial⟩, hI⟩ ?_
 clear hI
 rintro ρ w ⟨k, hk, hH, hI⟩
 obtain ⟨σ, rfl⟩ := hH.open
 by_cases hk8 : k < 8
 rotate_left
 ·obtain rfl : k = 8 := by omega
  refine Ac (Ac (Ab (V0 rfl (V8 rfl (Vi rfl Tryd.underlying39 rfl (Vo rfl (Aa (Ad false rfl ?_))))))))
  refine BG ?_
  refine Ac (Ab (V6 rfl (Aa ?_)))
  refine Aj ?_
  exact Bw 4 (.inr rfl) rfl rfl
 have oC := O.cell k hk8
 have hord := O.row k hk8
 have hone := O.one k hk8
 have hsh := WN F.ok F.le k hone
 have hidx := Yk F.ok F.le k
 have hfew := Yo F.ok F.le k
 have hokK := Ke F.ok k (bud := 0) (by omega) (by omega)
 obtain ⟨Ao, co2, ho1, ho2, ho3, ho4, hocell⟩ := hord
 obtain ⟨An, cn2, hn1, hn2, hn3, hn4, hncell⟩ := F.num k hk8
 have nC := F.nC k hk8
 have pC := F.pC k hk8
 injection ho1 with e1 e2 e3
 injection hn1 with e4 e5 e6
 rw [← e1] at hocell
 rw [← e4] at hncell
 clear e1 e2 e3 e4 e5 e6 ho4 hn4
 have hpart := F.part k hk8
 have hnl := IB l k
 have hof : ∀ _ : Nat, Jm (fun k => (Br o 1000000 l k).ord) (Em l) k = ((Br o 1000000 l k).ord.map fun i => (Em l k).getD i.toNat 0) := fun _ => rfl
 rw [hof 0] at hocell
 generalize hod : (Br o 1000000 l k).ord = od at *
 generalize Ci l l.length k = m at *
 refine Ac (Ac (Ab (V0 rfl (V8 rfl (Vi rfl Tryd.underlying39 rfl (Vt rfl (Aa (Ad true rfl (Ah (Ac (Al (Ac (Ab ?_)))))))))))))
 refine Vf rfl (Aa (Ac (Ac (Ab (V9 rfl (Aa ?_))))))
 replace hI := hI.fresh (Pure.refl _) (Row.nil _ 0 3 1) (fun k hk => by simp [Row] at hk)
 refine Al ?_
 refine Ff (fun ρ w => ∃ (i : Nat) (A5 : Option Addr) (c5 : Nat), i ≤ od.length ∧ Has ρ ((13, .int .i64 (i : Int)) :: (12, .slice A5 i c5) :: (11, .int .i64 (k : Int)) :: Sl4 o b5 gp gn) ∧ Inv (fun _ => False) w0 w [Row 0 3 1 A5 i c5 (Ba (od.take i))]) (fun ρ _ => od.length - cnt (ρ 13)) ⟨0, _, _, by omega, ⟨rfl, rfl, rfl, rfl, rfl, rfl, rfl, trivial⟩, hI⟩ ?_
 clear hI
 rintro ρ w ⟨i, A5, c5, hi, hH, hI⟩
 obtain ⟨σ, rfl⟩ := hH.open
 by_cases hil : i < od.length
 rotate_left
 ·obtain rfl : i = od.length := by omega
  rw [List.take_of_length_le (Nat.le_refl _)] at hI
  refine Ac (Ac (Ab (V0 rfl (V7 2 rfl (V3 (.slice _ _ _) rfl (hI.oldp F.oC) (V0 rfl (Tb rfl Tryd.underlying31 rfl (V3 (.slice _ _ _) rfl (hI.oldp oC) (Vi rfl Tryd.underlying24 rfl (Vo rfl (Aa (Ad false rfl ?_))))))))))))
  refine BG ?_
  have hk0 := F.kn
  refine Ac (Ab (V0 rfl (V8 rfl (V0 rfl (Tb rfl Tryd.underlying39 rfl (V3 (.slice _ _ _) rfl (hI.oldp pC) (V8 rfl (Va [.int .i64 _, .slice _ _ _, .slice _ _ _] rfl Tryd.func11 rfl ?_))))))))
  refine (Je o (As k) m (cs k) (Dm l k) A5 c5 od _ _ _ (hpart.pure hI.pu) ((StE.rd hI).mono fun _ _ => trivial) hfew (hk0.pure hI.pu)).mono ?_
  rintro e w3 ⟨hp, ⟨_, b, rfl, hb⟩ | ⟨h1, _⟩⟩
  rotate_left
  ·exact absurd hokK h1
  obtain rfl : b = true := hb.2 hsh
  refine ⟨_, rfl, ?_⟩
  replace hI := hI.pure hp
  refine Ta rfl (Vk rfl (Vk rfl (V6 rfl (Vy rfl (Aa (Ac (Ab ?_)))))))
  refine Af rfl rfl rfl (by exact Fb rfl rfl) ?_
  refine Af rfl rfl rfl (by exact Hg rfl Tryd.underlying28 rfl) ?_
  refine V5 rfl (V5 rfl (T5 rfl (Vd rfl (V5 rfl (V8 rfl (Vi rfl Tryd.underlying24 rfl (V7 2 rfl (V3 (.slice _ _ _) rfl (hI.oldp F.oC) (V0 rfl (Tb rfl Tryd.underlying31 rfl (V3 (.slice _ _ _) rfl (hI.oldp oC) (Vi rfl Tryd.underlying24 rfl (Tl rfl ?_)))))))))))))
  refine Vd rfl (Aa (Ad false rfl (Ah (Ab (V0 rfl (Vb rfl (V9 rfl (Aa ?_))))))))
  exact ⟨⟨k + 1, by omega, ⟨rfl, rfl, rfl, rfl, rfl, trivial⟩, hI.d0⟩, by show 8 - ((k + 1 : Nat) : Int).toNat < 8 - (k : Int).toNat; omega⟩
 obtain ⟨x, hx⟩ : ∃ x, od[i]? = some x := ⟨_, List.getElem?_eq_getElem hil⟩
 have hxr := hidx x (List.mem_of_getElem? hx)
 obtain ⟨xn, rfl⟩ : ∃ xn : Nat, x = (xn : Int) := ⟨x.toNat, by omega⟩
 have hxm : xn < m := by omega
 obtain ⟨bo, oo, hCo, -, hoc⟩ := hocell (by omega)
 rw [hCo] at oC
 obtain ⟨bn, on, hBn, -, hnc⟩ := hncell (by omega)
 rw [hBn] at nC
 have hxl : xn < (Em l k).length := by rw [hnl]; exact hxm
 obtain ⟨bv, hbv⟩ : ∃ b, (Em l k)[xn]? = some b := ⟨_, List.getElem?_eq_getElem hxl⟩
 have qo := hoc i (.int .i64 bv) (by simp [Ba, hx, hbv])
 refine Ac (Ac (Ab (V0 rfl (V7 2 rfl (V3 (.slice _ _ _) rfl (hI.oldp F.oC) (V0 rfl (Tb rfl Tryd.underlying31 rfl (V3 (.slice _ _ _) rfl (hI.oldp oC) (Vi rfl Tryd.underlying24 rfl (Vt rfl (Aa (Ad true rfl (Ah ?_)))))))))))))
 refine Ac (Al (Ac (Ab (V9 rfl (Aa (Al ?_))))))
 refine Ff (fun ρ w => ∃ (j q : Nat) (A6 : Option Addr) (c6 : Nat), j ≤ m ∧ q = (if j ≤ xn then i else i + 1) ∧ Has ρ ((14, .int .i64 (j : Int)) :: (12, .slice A6 q c6) :: (13, .int .i64 (i : Int)) :: (11, .int .i64 (k : Int)) :: Sl4 o b5 gp gn) ∧ Inv (fun _ => False) w0 w [Row 0 3 1 A6 q c6 (Ba (od.take q))]) (fun ρ _ => m - cnt (ρ 14)) ⟨0, i, _, _, by omega, by rw [if_pos (by omega)], ⟨rfl, rfl, rfl, rfl, rfl, rfl, rfl, rfl, trivial⟩, hI⟩ ?_
 clear hI
 rintro ρ w ⟨j, q, A6, c6, hj, hq, hH, hI⟩
 obtain ⟨σ, rfl⟩ := hH.open
 by_cases hjm : j < m
 rotate_left
 ·obtain rfl : j = m := by omega
  rw [if_neg (by omega)] at hq
  subst hq
  refine Ac (Ac (Ab (V0 rfl (V8 rfl (V0 rfl (Tb rfl Tryd.underlying31 rfl (V3 (.slice _ _ _) rfl (hI.oldp nC) (Vi rfl Tryd.underlying24 rfl (Vo rfl (Aa (Ad false rfl ?_)))))))))))
  refine BG ?_
  refine Ab (V0 rfl (Vb rfl (V9 rfl (Aa ?_))))
  exact ⟨⟨i + 1, A6, c6, by omega, ⟨rfl, rfl, rfl, rfl, rfl, rfl, rfl, trivial⟩, hI⟩, by show od.length - ((i + 1 : Nat) : Int).toNat < od.length - (i : Int).toNat; omega⟩
 have hjl : j < (Em l k).length := by rw [hnl]; exact hjm
 obtain ⟨av, hav⟩ : ∃ b, (Em l k)[j]? = some b := ⟨_, List.getElem?_eq_getElem hjl⟩
 have qn := hnc j (.int .i64 av) (by simp [Ba, hav])
 refine Ac (Ac (Ab (V0 rfl (V8 rfl (V0 rfl (Tb rfl Tryd.underlying31 rfl (V3 (.slice _ _ _) rfl (hI.oldp nC) (Vi rfl Tryd.underlying24 rfl (Vt rfl (Aa (Ad true rfl (Ah (Ac ?_)))))))))))))
 refine Al ?_
 by_cases hjx : j = xn
 ·subst hjx
  obtain rfl : av = bv := by rw [hav] at hbv; exact Option.some.inj hbv
  rw [if_pos (by omega)] at hq
  replace hq := hq.symm
  subst hq
  have htk : Ba (od.take i) ++ [.int .i64 (j : Int)] = Ba (od.take (i + 1)) := by
   rw [List.take_add_one]
   simp [Ba, hx]
  refine Ac (BB (by kernel_rfl) ?_)
  refine BC (T := []) hI.drew ?_
  intro Sx hSx hXS
  replace hI := hI.drew
  refine Vv 0 (hXS _ hI) rfl (Vs 1 (hXS _ hI) rfl (Vl 2 (hXS _ hI) rfl Tryd.underlying31 rfl (Vh 3 (.slice _ _ _) (hXS _ hI) rfl (fun W hW => (hSx W hW).oldp nC) (Vs 4 (hXS _ hI) rfl ?_))))
  refine Ae 5 rfl rfl (by kernel_rfl) (hXS _ hI) rfl (fun W hW => have hI := hSx W hW; (by exact Dz rfl Tryd.underlying24 (by kernel_rfl) rfl rfl (by omega))) ?_
  refine Vh 6 (.int .i64 _) (hXS _ hI) rfl (fun W hW => (hSx W hW).oldp qn) (Vq 7 2 (hXS _ hI) rfl (Vh 8 (.slice _ _ _) (hXS _ hI) rfl (fun W hW => (hSx W hW).oldp F.oC) (Vs 9 (hXS _ hI) rfl (Vl 10 (hXS _ hI) rfl Tryd.underlying31 rfl (Vh 11 (.slice _ _ _) (hXS _ hI) rfl (fun W hW => (hSx W hW).oldp oC) (Vs 12 (hXS _ hI) rfl ?_))))))
  refine Ae 13 rfl rfl (by kernel_rfl) (hXS _ hI) rfl (fun W hW => have hI := hSx W hW; (by exact Dz rfl Tryd.underlying24 (by kernel_rfl) rfl rfl (by omega))) ?_
  refine Vh 14 (.int .i64 _) (hXS _ hI) rfl (fun W hW => (hSx W hW).oldp qo) ?_
  refine Ae 15 rfl rfl (by kernel_rfl) (hXS _ hI) rfl (fun W hW => have hI := hSx W hW; (by exact Un rfl rfl rfl (by omega))) ?_
  refine Av (by kernel_rfl) (Ad true rfl (Ab (V8 rfl (V0 rfl (Vm [(0, .int .i64 _)] [_] [.int .i64 0] [0] hI rfl Tryd.underlying24 (fun _ => by kernel_rfl) ?_)))))
  clear hI; rintro b129 w - - hI
  refine Eb (z := .int .i64 0) (by_ := 8) hI rfl rfl rfl rfl rfl rfl Tryd.underlying24 (by kernel_rfl) rfl (by omega) (by rfl) hI.lit0 (by rfl) (by omega) (by omega) (by exact Nat.zero_le _) ?_
  clear hI; rintro A130 c130 w hA130 hc130 hI
  replace hI := hI.d0
  refine Vf rfl (Aa ?_)
  rw [htk] at hI
  refine Ab (V0 rfl (Vb rfl (V9 rfl (Aa ?_))))
  exact ⟨⟨j + 1, i + 1, A130, c130, by omega, by rw [if_neg (by omega)], ⟨rfl, rfl, rfl, rfl, rfl, rfl, rfl, rfl, trivial⟩, hI⟩, by show m - ((j + 1 : Nat) : Int).toNat < m - (j : Int).toNat; omega⟩
 have hne : av ≠ bv := fun e => hjx (UL hjl hxl (by
  rw [List.getElem?_eq_getElem hjl] at hav
  rw [List.getElem?_eq_getElem hxl] at hbv
  rw [Option.some.inj hav, Option.some.inj hbv, e]))
 refine Ac (BB (by kernel_rfl) ?_)
 refine BC (T := []) hI.drew ?_
 intro Sx hSx hXS
 replace hI := hI.drew
 refine Vv 0 (hXS _ hI) rfl (Vs 1 (hXS _ hI) rfl (Vl 2 (hXS _ hI) rfl Tryd.underlying31 rfl (Vh 3 (.slice _ _ _) (hXS _ hI) rfl (fun W hW => (hSx W hW).oldp nC) (Vs 4 (hXS _ hI) rfl ?_))))
 refine Ae 5 rfl rfl (by kernel_rfl) (hXS _ hI) rfl (fun W hW => have hI := hSx W hW; (by exact Dz rfl Tryd.underlying24 (by kernel_rfl) rfl rfl (by omega))) ?_
 refine Vh 6 (.int .i64 _) (hXS _ hI) rfl (fun W hW => (hSx W hW).oldp qn) (Vq 7 2 (hXS _ hI) rfl (Vh 8 (.slice _ _ _) (hXS _ hI) rfl (fun W hW => (hSx W hW).oldp F.oC) (Vs 9 (hXS _ hI) rfl (Vl 10 (hXS _ hI) rfl Tryd.underlying31 rfl (Vh 11 (.slice _ _ _) (hXS _ hI) rfl (fun W hW => (hSx W hW).oldp oC) (Vs 12 (hXS _ hI) rfl ?_))))))
 refine Ae 13 rfl rfl (by kernel_rfl) (hXS _ hI) rfl (fun W hW => have hI := hSx W hW; (by exact Dz rfl Tryd.underlying24 (by kernel_rfl) rfl rfl (by omega))) ?_
 refine Vh 14 (.int .i64 _) (hXS _ hI) rfl (fun W hW => (hSx W hW).oldp qo) ?_
 refine Ae 15 rfl rfl (by kernel_rfl) (hXS _ hI) rfl (fun W hW => have hI := hSx W hW; (by exact Uo rfl rfl rfl (by omega))) ?_
 refine Av (by kernel_rfl) (Ad false rfl (Ah (Ab (V0 rfl (Vb rfl (V9 rfl (Aa ?_)))))))
 exact ⟨⟨j + 1, q, A6, c6, by omega, by rw [hq]; by_cases h1 : j ≤ xn <;> simp [h1] <;> omega, ⟨rfl, rfl, rfl, rfl, rfl, rfl, rfl, rfl, trivial⟩, hI⟩, by show m - ((j + 1 : Nat) : Int).toNat < m - (j : Int).toNat; omega⟩
end
section
variable {w0 : World} {o : Int} {l : List Op8} {A : Option Addr} {n c : Nat} {D : Nat → Prop} {ρ : Env}
set_option maxHeartbeats 2000000 in
theorem Ty (h : BK w0 D (.slice A n c) l) (hk : Dq w0) {x : Value} (hx : FZ x) (hH : Has ρ [(0, .int .i64 o), (1, .slice A n c), (23, .tuple #[.agg zV.toArray, x])]) :
  WL Tryd.prog Tryd.f4.ntmps CJ (Cy (fun ρ w => W Tryd.prog Tryd.f4.ntmps CK (DR Tryd.prog Tryd.f4 (fun en _ => en = .returned (.bool true))) ρ w) (fun _ _ _ => False)) (CJ.toList.drop 3) ρ w0 := by
 obtain ⟨z, rfl⟩ := hx
 obtain ⟨σ, rfl⟩ := hH.open
 have hI := Inv.start (fun _ => False) w0
 unfold CJ CK s3 CW
 rw [Tryd.f4]
 dsimp only [Option.getD_some]
 show WL _ _ _ _ [_, _, _, _, _, _] _ _
 /-
 refine Ac (Ab ?_)
 refine Af rfl rfl rfl (by first | exact NG rfl rfl | exact ES rfl) ?_
 refine Af rfl rfl rfl (by first | exact NF rfl rfl | exact ES rfl) ?_
 refine Va [.int .i64 _, .slice _ _ _, .int .i64 _, .int .i64 _] rfl Tryd.func7 rfl ?_
 -/
 refine Ta rfl (Vk rfl (Vk rfl (Vw (.agg #[.int .i64 0, .int .i64 0, .slice none 0 0]) (#[.int .i64 0, .int .i64 0, .slice none 0 0]) hI rfl ?_)))
 clear hI; rintro b5 w - - hI
 refine Vz 3 (#[_, _, _]) (.agg _) hI rfl ?_
 clear hI; intro w hI
 refine T6 rfl (Aa (Ac (Ac (Ab (Va [] rfl Tryd.func8 rfl ?_)))))
 refine (Jn _ (hk.pure hI.pu)).mono ?_
 rintro e w2 ⟨rfl, hp⟩
 refine ⟨_, rfl, ?_⟩
 replace hI := hI.pure hp
 refine T5 rfl (V5 rfl ?_)
 refine Af rfl rfl rfl (by exact EH rfl rfl) ?_
 refine Af rfl rfl rfl (by exact Fv rfl Tryd.underlying28 rfl rfl) ?_
 refine Vd rfl (Aa (Ad true rfl ?_))
 unfold zV at hI
 refine Ac (Ab (Va [] rfl Tryd.func8 rfl ?_))
 refine (Jn _ (hk.pure hI.pu)).mono ?_
 rintro e w2 ⟨rfl, hp⟩
 refine ⟨_, rfl, ?_⟩
 replace hI := hI.pure hp
 refine V5 rfl (V7 0 rfl (V3 (.int .i64 _) rfl (hI.c0 rfl) (Vu rfl (Vg rfl (V6 rfl (Aa ?_))))))
 refine Aj ?_
 exact Bw 4 (.inr rfl) rfl rfl
theorem Or4.pure {w1 : World} {g : Nat} {Cs : Nat → Option Addr} {es : Nat → Nat} (h : Or4 w0 o l g Cs es) (hp : Pure w0 w1) : Or4 w1 o l g Cs es :=
 ⟨fun k hk => ((Inv.start (fun _ => False) w0).pure hp).oldp (h.cell k hk), fun k hk => (h.row k hk).pure hp, h.one⟩
theorem Zf {w : World} {b5 gp gn : Nat} {code key : Int} {vo : Value} {As : Nat → Option Addr} {cs : Nat → Nat} {Bs : Nat → Option Addr} {ds : Nat → Nat} (hok : BA o l 0) (hl : l.length ≤ 8) (hk : Dq w)
  (hI : Inv (fun _ => False) w0 w [AY 8 (pE l As cs l.length), AY 8 (nE l Bs ds l.length), B gp 22 (slC l As cs l.length), B gn 24 (slC l Bs ds l.length), B b5 33 #[.int .i64 code, .int .i64 key, vo]]) : Fa4 w o l b5 gp gn code key vo As cs Bs ds := by
 have hb5 : Blk w b5 33 #[.int .i64 code, .int .i64 key, vo] := hI.g4
 have hgp : Blk w gp 22 (slC l As cs l.length) := hI.g2
 have hgn : Blk w gn 24 (slC l Bs ds l.length) := hI.g3
 have hp := (hI.ok (AY 8 (pE l As cs l.length)) (by simp)).1.1
 have hn := (hI.ok (AY 8 (nE l Bs ds l.length)) (by simp)).1.1
 refine ⟨hok, hl, by rw [hb5.cell]; rfl, by rw [hb5.cell]; rfl, by rw [hb5.cell]; rfl, fun k hk => by rw [hgp.cell]; exact EQ hk, fun k hk => by rw [hgn.cell]; exact EQ hk, fun k hk => ?_, fun k hk => ?_, hk⟩
 ·unfold BK
  rw [Iz, OT]
  exact Rd.of_own (hp k hk).1 fun _ _ _ => trivial
 ·exact Rd.of_own (hn k hk).1 fun _ _ _ => trivial
set_option maxHeartbeats 2000000 in
theorem Q3 (h : BK w0 D (.slice A n c) l) (hk : Dq w0) (hok : BA o l 0) (hl : l.length ≤ 8) {code key : Int} {vo : Value} (hvo : vo = .slice none 0 0 ∨ ∃ g co, vo = .slice (some ⟨g, 0, none⟩) 8 co)
  (hcase : (∃ k : Nat, k < 8 ∧ code = 2 ∧ key = (k : Int) ∧ (Br o 1000000 l k).code = 2) ∨ (code = 1 ∧ key = -1 ∧ ∃ g co Cs es, vo = .slice (some ⟨g, 0, none⟩) 8 co ∧ Or4 w0 o l g Cs es))
  (hH : Has ρ [(0, .int .i64 o), (1, .slice A n c), (23, .tuple #[.agg #[.int .i64 code, .int .i64 key, vo], .nilIface])]) :
  WL Tryd.prog Tryd.f4.ntmps CJ (Cy (fun ρ w => W Tryd.prog Tryd.f4.ntmps CK (DR Tryd.prog Tryd.f4 (fun en _ => en = .returned (.bool true))) ρ w) (fun _ _ _ => False)) (CJ.toList.drop 3) ρ w0 := by
 obtain ⟨A0, n0, c0, rfl⟩ : ∃ A0 n0 c0, vo = .slice A0 n0 c0 := by rcases hvo with rfl | ⟨g, co, rfl⟩ <;> exact ⟨_, _, _, rfl⟩
 obtain ⟨σ, rfl⟩ := hH.open
 have hI := Inv.start (fun _ => False) w0
 have e7 : CK = .seq _ (.seq _ s7) := rfl
 unfold CJ s3 CW
 rw [Tryd.f4]
 dsimp only [Option.getD_some]
 show WL _ _ _ _ [_, _, _, _, _, _] _ _
 /-
 refine Ac (Ab ?_)
 refine Af rfl rfl rfl (by first | exact NG rfl rfl | exact ES rfl) ?_
 refine Af rfl rfl rfl (by first | exact NF rfl rfl | exact ES rfl) ?_
 refine Va [.int .i64 _, .slice _ _ _, .int .i64 _, .int .i64 _] rfl Tryd.func7 rfl ?_
 -/
 refine Ta rfl (Vk rfl (Vk rfl (Vw (.agg #[.int .i64 0, .int .i64 0, .slice none 0 0]) (#[.int .i64 0, .int .i64 0, .slice none 0 0]) hI rfl ?_)))
 clear hI; rintro b5 w - - hI
 refine Vz 3 (#[_, _, _]) (.agg _) hI rfl ?_
 clear hI; intro w hI
 refine Vy rfl (Aa ?_)
 rw [e7]
 refine Ac (Ac (Ab (Va [] rfl Tryd.func8 rfl ?_)))
 refine (Jn _ (hk.pure hI.pu)).mono ?_
 rintro e w2 ⟨rfl, hp⟩
 refine ⟨_, rfl, ?_⟩
 replace hI := hI.pure hp
 refine T5 rfl (V5 rfl ?_)
 refine Af rfl rfl rfl (by exact Fb rfl rfl) ?_
 refine Af rfl rfl rfl (by exact Hg rfl Tryd.underlying28 rfl) ?_
 refine Vd rfl (Aa (Ad false rfl (Ah (Ac (Ab (V8 rfl (Va [.slice _ _ _] rfl Tryd.func10 rfl ?_)))))))
 refine (Ms A n c l D _ (h.pure hI.pu) (by omega)).mono ?_
 rintro e w1 ⟨gp, gn, As, cs, Bs, ds, rfl, hT⟩
 refine ⟨_, rfl, ?_⟩
 replace hI := hI.app hT
 refine Ta rfl (Vk rfl (Vk rfl (Vf rfl (Vf rfl (Aa ?_)))))
 have hO := fun g Cs es (hh : Or4 w0 o l g Cs es) => hh.pure hI.pu
 have F : Fa4 w1 o l b5 gp gn code key (.slice A0 n0 c0) As cs Bs ds := Zf hok hl (hk.pure hI.pu) hI
 rcases hcase with ⟨k, hk8, rfl, rfl, h2⟩ | ⟨rfl, rfl, g, co, Cs, es, e, hor⟩
 ·exact U8 F hk8 h2 ⟨rfl, rfl, rfl, rfl, trivial⟩
 ·cases e
  exact UC F (hO _ _ _ hor) ⟨rfl, rfl, rfl, rfl, trivial⟩
end
end Go.Proofs.YtkkmokodaejheaaDoor
namespace Go.Proofs.YtkkmokodaejheaaDoor
open Go Go.Conc Go.RowKit
section
variable {P : Program}
theorem NY {f : FuncId} {fn : Func} {c : Code} {T : Array Value} {v : World} {R : Ending → World → Prop} {ops : Array Oper} {k n : Nat} {l : List Oper} (hf : P.funcs[f]? = some fn) (hT : T.size = fn.ntmps) (hn : l.length = n) (hl : ∀ j, l[j]? = ops[k + j]?)
  (h : ∀ t, WL P fn.ntmps ops (Cy (fun ρ w => W P fn.ntmps c (DR P fn R) ρ w) (fun _ _ _ => False)) l (fun i => T.getD i undef) (v.tp t)) :
  DJ P (fun f' T' w => f' = f ∧ JG P (fun u w => R (.returned u) w) f' T' w) (fun f' T' w => f' = f ∧ T'.size = fn.ntmps ∧ JG P (fun u w => R (.returned u) w) f' T' w) ⟨fm f T [.inRegion ops (List.range' k n), .code c, mkI], [], v⟩ := by
 subst hn
 intro t ht
 have h1 := h t
 unfold WL at h1
 have h2 := h1 ⟨T, []⟩ (Hr hT)
 rw [← wpOps_eq_wpList l k hl] at h2
 obtain ⟨e, a', w', hq, harr⟩ := wp_ops _ _ _ h2 (base f) [.code c, mkI] [sent]
 cases e with
 | normal =>
  obtain ⟨ρ, hfit, hK⟩ := hq
  have hK : W P fn.ntmps c (DR P fn R) ρ w' := hK
  obtain ⟨n1, hn1⟩ := harr
  unfold W at hK
  obtain ⟨e2, a2, w2, hq2, harr2⟩ := hK a' hfit (base f) [mkI] [sent]
  cases e2 with
  | normal =>
   obtain ⟨ρ2, hfit2, hK2⟩ := hq2
   obtain ⟨u, hr, hR⟩ := OG hK2 a2 hfit2
   obtain ⟨n2, hn2⟩ := harr2
   exact ⟨n1 + n2, _, w2, by
    show runN P (n1 + n2) (lone ((base f).at ⟨T, []⟩ _) [sent] (v.tp t)) = _
    rw [runN_add, hn1]; exact hn2, .inr ⟨rfl, rfl, rfl, hfit2.size, fn, u, hf, hr, hR⟩⟩
  | ret =>
   obtain ⟨ρ2, hfit2, hK2⟩ := hq2
   obtain ⟨todo, n2, hn2⟩ := harr2
   obtain ⟨u, hr, hR⟩ := KU hK2 a2 hfit2
   exact ⟨n1 + n2, _, w2, by
    show runN P (n1 + n2) (lone ((base f).at ⟨T, []⟩ _) [sent] (v.tp t)) = _
    rw [runN_add, hn1]; exact hn2, .inl ⟨rfl, rfl, fn, u, hf, hr, hR⟩⟩
  | panic c => exact absurd (GH hq2.2) (by simp)
  | exit id => obtain ⟨_, _, h⟩ := hq2; exact absurd (GH h) (by simp)
  | goto l => obtain ⟨_, _, h⟩ := hq2; exact absurd (GH h) (by simp)
  | outgrown => exact hq2.elim
 | ret => exact (let ⟨_, _, h⟩ := hq; h.elim)
 | panic c => exact hq.2.elim
 | exit id => exact (let ⟨_, _, h⟩ := hq; h.elim)
 | goto l => exact (let ⟨_, _, h⟩ := hq; h.elim)
 | outgrown => exact hq.elim
theorem VG {z' : Nat} {a : Goroutine} {W0 : World} {Post : Value → World → Prop}
  (h : MBX P (fun _ => False) 1 z' a W0 (fun SB' g w => g.status = .running ∧ ∀ d, ∃ v, stepG P true g (w.at d) = .ended (.done v) (w.at d) #[] ∧ Post v (w.at d))) :
  ∃ M last o w' t', runNT P (M + 1) (solo a W0) #[] = (.ended o w', t') ∧ runN P M (solo a W0) = .next last ∧ step P last = .ended o w' ∧ Go.Conc.Good P Post last o w' t' := by
 have hp : Past (C9 fun _ => False) W0.heap.size #[] := by
  have e : (C9 fun _ => False) = fun _ => False := by
   funext l
   apply propext
   exact ⟨fun ⟨_, _, h⟩ => h, fun h => h.elim⟩
  rw [e]
  exact past_nil.mono (Nat.zero_le _)
 obtain ⟨N, gs, g, w, sl, t, q, SB', hr, hz, h0, hL, hP, hst, hend⟩ := h #[a] none #[] (fun _ => 0) rfl rfl (leavers_one _ _) hp
 have hG : Goes P true AtRel Go.ConcR.DC0 (AtEnd P (C9 SB') w.heap.size Post) 0 g w := by
  intro w1 hw1
  obtain ⟨d, rfl⟩ := hw1
  obtain ⟨v, h1, h2⟩ := hend d
  exact ⟨hst, v, #[], h1, fun e he => by simp at he, h2⟩
 obtain ⟨K4, last, o, w', t', e1, e2, e3, e4⟩ := beside_ends (P := P) (Post := Post) (sl := sl) (D := Go.ConcR.DC0) Rv h0 hL hP hG
 refine ⟨N + K4, last, o, w', t', ?_, ?_, e3, e4⟩
 ·rw [solo_eq_crowd, Nat.add_assoc, runNT_add, hr]; exact e1
 ·rw [solo_eq_crowd, runN_add, ← runNT_fst P _ _ #[], hr]; exact e2
end
noncomputable def Ux : Code := match CW with | .seq a (.seq b _) => .seq a (.seq b .skip) | _ => .skip
theorem gr4 : Gr Tryd.prog lcS s3 Ux CW := by
 unfold s3 Ux CW
 rw [Tryd.f4]
 dsimp only [Option.getD_some]
 exact .seq (by kernel_rfl) (.seq (by kernel_rfl) .fin)
theorem ZX : s3 = .seq (.region 3 CJ false) CK := by
 unfold s3 CJ CK s3 CW
 rw [Tryd.f4]
 dsimp only [Option.getD_some]
theorem Qz : Tryd.f4.ntmps = 158 := by kernel_rfl
section
variable {w0 : World} {o : Int} {l : List Op8} {A : Option Addr} {n c : Nat}
set_option maxHeartbeats 2000000 in
theorem Uw {D : Nat → Prop} (h : BK w0 D (.slice A n c) l) : W Tryd.prog Tryd.f4.ntmps Ux (NK Tryd.prog Tryd.f4 (fun en w' => 8 < l.length ∧ en = .returned (.bool true)) (fun ρ w' => l.length ≤ 8 ∧ Has ρ [(0, .int .i64 o), (1, .slice A n c)])) (entry #[.int .i64 o, .slice A n c]) w0 := by
 obtain ⟨hn, hc1, hc2⟩ := h.len
 subst hn
 have hI := Inv.start (fun _ => False) w0
 unfold Ux CW
 rw [Tryd.f4]
 dsimp only [Option.getD_some]
 refine Ac (Ab (V6 rfl (Aa ?_)))
 by_cases h8 : l.length ≤ 8
 rotate_left
 ·refine Ac (Ac (Ab (V8 rfl (Vi rfl Tryd.underlying22 rfl ?_))))
  refine Af rfl rfl rfl (by exact Mx rfl rfl rfl (by omega)) ?_
  refine Aa (Ad true rfl (Ac (Ab (V6 rfl (Aa ?_)))))
  refine Aj ?_
  exact Bw 4 (.inr rfl) rfl ⟨by omega, rfl⟩
 refine Ac (Ac (Ab (V8 rfl (Vi rfl Tryd.underlying22 rfl ?_))))
 refine Af rfl rfl rfl (by exact JR rfl rfl rfl (by omega)) ?_
 refine Aa (Ad false rfl (Ah (Ah ?_)))
 exact ⟨h8, rfl, rfl, trivial⟩
end
theorem Ww {F : FuncId → Prop} {π : Ren} {D O : Nat → Prop} {b0 : Nat} (hle : (DT D O b0).Le π) {A : Option Addr} {n c : Nat} {y : Value} (hD : ∀ b, A.map (·.block) = some b → D b) (h : VR F π (.slice A n c) y) : y = .slice A n c := by
 cases A with
 | none => exact (Gu.slice0 _ _).eq h
 | some a =>
  cases h with
  | slice _ _ ha =>
   rename_i a'
   obtain ⟨h1, h2, h3⟩ := ha
   have := hle.to _ _ (FR (hD _ rfl))
   rw [h1] at this
   have e : a'.block = a.block := Option.some.inj this
   obtain ⟨x1, x2, x3⟩ := a
   obtain ⟨y1, y2, y3⟩ := a'
   dsimp only at e h2 h3
   rw [e, h2, h3]
noncomputable def b4 : Frame := base 4
theorem U3 : b4.kind ≠ .early := by simp [b4, base]
def Yr (SB : Nat → Prop) (w0 : World) (o : Int) (A : Option Addr) (n c : Nat) (l : List Op8) (_ : Nat → Prop) (g : Goroutine) (w : World) : Prop :=
 Kept SB w0 w ∧ ((8 < l.length ∧ ∃ t' todo', g = G (fmR 4 t' todo') [] ∧ t'.getD 4 undef = .bool true) ∨
  (l.length ≤ 8 ∧ ∃ ρ a, Fit 158 ρ a ∧ ρ 0 = .int .i64 o ∧ ρ 1 = .slice A n c ∧ g = In7 #[.int .i64 o, .slice A n c, .int .i64 1000000, .int .i64 3] [b4.at a (.inRegion CJ (2 :: List.range' 3 6) :: [.code CK])]))
theorem Uc {P : Program} {fn : Func} {T : Array Value} {w w' : World} {u : Value} {s : Nat} (hr : fn.results = #[.tmp s]) (h : (results fn T).run P w = .ok u w') : u = T.getD s undef := by
 simp [results, hr] at h
 rw [← h.1, Array.getD_eq_getD_getElem?]
section
variable {SB : Nat → Prop} {w : World} {o : Int} {l : List Op8} {A : Option Addr} {n c : Nat}
theorem Y3 {SB : Nat → Prop} {w0 w : World} {M : Nat → Prop} {T : Array Value} (hT : T.size = 158) (h0 : T.getD 0 undef = .int .i64 o) (h1 : T.getD 1 undef = .slice A n c) (hl : l.length ≤ 8) (hK : Kept SB w0 w) :
  Own Tryd.prog true (RK SB w0) (fun _ => True) (fun _ => False) (Yr SB w0 o A n c l) M (G (b4.at ⟨T, []⟩ [.code s3]) []) w := by
 rw [ZX]
 refine Own.move rfl (fun w1 => stepG_seq) fun w1 hr => Own.rely ?_ hr
 refine Own.move rfl (fun w1 => stepG_region) fun w1 hr => Own.rely ?_ hr
 have hf := Hr hT
 have ha : (⟨T, []⟩ : Act) = ⟨T, []⟩ := rfl
 generalize hρ : (fun i => T.getD i undef) = ρ at hf
 have h0 : ρ 0 = .int .i64 o := by rw [← hρ]; exact h0
 have h1 : ρ 1 = .slice A n c := by rw [← hρ]; exact h1
 clear hρ
 generalize (⟨T, []⟩ : Act) = a at hf
 have d0 : (CJ.getD 0 default).dst = some 21 := by simp only [CJ, CK, s3, CW, Tryd.f4, Option.getD_some]; rfl
 have d1 : (CJ.getD 1 default).dst = some 22 := by simp only [CJ, CK, s3, CW, Tryd.f4, Option.getD_some]; rfl
 have o0 : (CJ.getD 0 default).op = .move (.tmp 0) := by simp only [CJ, CK, s3, CW, Tryd.f4, Option.getD_some]; rfl
 have o1 : (CJ.getD 1 default).op = .move (.tmp 1) := by simp only [CJ, CK, s3, CW, Tryd.f4, Option.getD_some]; rfl
 have hl3 : List.range CJ.size = [0, 1, 2, 3, 4, 5, 6, 7, 8] := by simp only [CJ, CK, s3, CW, Tryd.f4, Option.getD_some]; rfl
 rw [hl3]
 refine Kc (o := CJ.getD 0 default) (v := .int .i64 o) (by kernel_rfl) (by kernel_rfl) U3 (fun w1 r => ?_) ?_
 ·rw [hf.eval]
  have := Ew (P := Tryd.prog) (R := RK SB w0) (w := w1) (ρ := ρ) (v := .int .i64 o) o0 h0
  exact ⟨this.1, fun e he => Fy (this.2 e he)⟩
 rw [d0]
 have hf := hf.put (d := 21) (by omega) (.int .i64 o)
 generalize a.put (some 21) (.int .i64 o) = a1 at hf ⊢
 refine Kc (o := CJ.getD 1 default) (v := .slice A n c) (by kernel_rfl) (by kernel_rfl) U3 (fun w1 r => ?_) ?_
 ·rw [hf.eval]
  have h1' : ev (upd ρ 21 (.int .i64 o)) (.tmp 1) = .slice A n c := h1
  have := Ew (P := Tryd.prog) (R := RK SB w0) (w := w1) o1 h1'
  exact ⟨this.1, fun e he => Fy (this.2 e he)⟩
 rw [d1]
 have hf := hf.put (d := 22) (by omega) (.slice A n c)
 generalize a1.put (some 22) (.slice A n c) = a2 at hf ⊢
 have ho : (CJ.getD 2 default).op = .call { callee := .value (.func 7), args := [.tmp 21, .tmp 22, .const (.int .i64 1000000), .const (.int .i64 3)].toArray, argTypes := (match (CJ.getD 2 default).op with | .call c => c.argTypes | _ => #[]) } := by simp only [CJ, CK, s3, CW, Tryd.f4, Option.getD_some]; rfl
 have hb7 : Tryd.f7.body = some Aq := by
  unfold Aq
  cases h : Tryd.f7.body with
  | some c => rfl
  | none => exact absurd (show Tryd.f7.body.isSome = true by kernel_rfl) (by rw [h]; simp)
 refine Iy (o := CJ.getD 2 default) (f := 7) (fn := Tryd.f7) (c := Aq) (args := #[.int .i64 o, .slice A n c, .int .i64 1000000, .int .i64 3]) (by kernel_rfl) (by kernel_rfl) U3 Tryd.func7 hb7 (fun w1 r => ?_) fun w1 r => ?_
 ·rw [hf.eval]
  refine ⟨Rc ho Tryd.func7 (by kernel_rfl) (by kernel_rfl) rfl, fun e he => ?_⟩
  rw [N7 ho Tryd.func7 (by kernel_rfl) (by kernel_rfl)] at he
  simp at he
 ·refine .stop fun w2 r2 => ⟨(hK.rely r).rely r2, .inr ⟨hl, _, a2, hf, h0, h1, rfl⟩⟩
end
theorem Ue : Ct Tryd.prog lcS [.inRegion CJ (List.range' 3 6), .code CK] := by
 intro it hit
 rcases List.mem_cons.1 hit with rfl | hit
 ·unfold CJ s3 CW
  rw [Tryd.f4]
  dsimp only [Option.getD_some]
  kernel_rfl
 ·rw [List.mem_singleton.1 hit]
  unfold CK s3 CW
  rw [Tryd.f4]
  dsimp only [Option.getD_some]
  kernel_rfl
section
variable {SB : Nat → Prop} {w : World} {o : Int} {l : List Op8} {A : Option Addr} {n c : Nat}
theorem Nt {F : FuncId → Prop} {π : Ren} {t t' : Array Value} {v v' : World} {u : Value} (hr : (results Tryd.f4 t).run Tryd.prog v = .ok u v') (hu : Ending.returned u = .returned (.bool true)) (ht : AR (VR F π) t t') : t'.getD 4 undef = .bool true := by
 injection hu with hu
 have := Uc (s := 4) (by kernel_rfl) hr
 have h4 := ht.getD 4 (VR.undef (F := F) (π := π))
 rw [← this, hu] at h4
 generalize t'.getD 4 undef = y at h4 ⊢
 cases h4
 rfl
theorem Xf (C : DN SB w A n c l) {T : Array Value} (hT : T.size = Tryd.f4.ntmps) (hTe : (fun i => T.getD i undef) = entry #[.int .i64 o, .slice A n c]) (hTs : ∀ u ∈ T, VR (SF lcS) (idr (D7 A) 0) u u) :
  Own Tryd.prog true (RK SB w) (fun _ => True) (fun _ => False) (Yr SB w o A n c l) none_ (G (fm 4 T [.code CW]) []) w := by
 have hC : Closed (RK SB w) w (D7 A) := ⟨fun k hk => C.lt hk, fun k hk => C.row hk⟩
 refine Rf (KR := fun f' T' v => f' = 4 ∧ JG Tryd.prog (fun u v => 8 < l.length ∧ Ending.returned u = .returned (.bool true)) f' T' v)
  (KO := fun f' T' v => f' = 4 ∧ T'.size = Tryd.f4.ntmps ∧ l.length ≤ 8 ∧ Has (fun i => T'.getD i undef) [(0, .int .i64 o), (1, .slice A n c)])
  (r0 := s3) (x0 := Ux) (D := D7 A) (O := fun _ => False) (fun w1 => Kept SB w w1) (fun M w1 w2 r h => h.rely r) (fun M' w1 w2 hM s h => h.spares (fun b hb => (hM b hb).elim (fun h => h.elim) id) s) (Kept.refl _ _)
  IJ Tryd.func4 gr4 C.gsz (fun g hg => .inr (by simpa [lcS] using hg)) hC.o (T0 := T) (AR.self hTs) ?_ ?_ ?_
 ·refine JU (R := fun en w' => 8 < l.length ∧ en = .returned (.bool true)) (KO := fun ρ v => l.length ≤ 8 ∧ Has ρ [(0, .int .i64 o), (1, .slice A n c)]) Tryd.func4 hT fun t => ?_
  rw [hTe]
  exact Uw (Fx t (Rd.mono C.ops fun k hk => .inl hk) : BK (idv (SF lcS) (D7 A) (w.tp t)) (D7 A) (.slice A n c) l)
 ·rintro π f t t' todo' v w1 M' hle ht hf hK hW hown hM0 hMb hJ
  obtain ⟨rfl, fn, u, hfn, hr, h8, hu⟩ := hK v.tape fun _ _ => rfl
  rw [Tryd.func4] at hfn
  cases hfn
  exact .stop fun w2 r2 => ⟨hJ.rely r2, .inl ⟨h8, t', todo', rfl, Nt hr hu ht⟩⟩
 ·rintro π f t t' v w1 M' hle ht ⟨rfl, hT', hl, h0, h1, -⟩ hW hown hM0 hMb hJ
  have g0 := ht.getD 0 (VR.undef (F := SF lcS) (π := π))
  have g1 := ht.getD 1 (VR.undef (F := SF lcS) (π := π))
  dsimp only at h0 h1
  rw [h0] at g0
  rw [h1] at g1
  exact Y3 (by rw [← ht.1, hT', Qz]) (Gu.eq (.int _ _) g0) (Ww hle (fun b hb => .inl hb) g1) hl hJ
def Yt (SB : Nat → Prop) (w0 : World) (_ : Nat → Prop) (g : Goroutine) (w : World) : Prop := Kept SB w0 w ∧ ∃ t' todo', g = G (fmR 4 t' todo') [] ∧ t'.getD 4 undef = .bool true
theorem UA {D : Nat → Prop} (hC : Closed (RK SB w) w D) (hV : ∀ g, g < 4 → D g) (hgsz : Tryd.prog.globals.size ≤ w.heap.size) {ρ : Env} {a : Act} (hf : Fit 158 ρ a) (h0 : ρ 0 = .int .i64 o) (h1 : ρ 1 = .slice A n c) (hA : ∀ b, A.map (·.block) = some b → D b) {u : Value} (hu : VR (SF lcS) (idr D 0) u u)
  (hW : ∀ t ρ', Has ρ' [(0, .int .i64 o), (1, .slice A n c), (23, u)] → WL Tryd.prog Tryd.f4.ntmps CJ (Cy (fun ρ w => W Tryd.prog Tryd.f4.ntmps CK (DR Tryd.prog Tryd.f4 (fun en _ => en = .returned (.bool true))) ρ w) (fun _ _ _ => False)) (CJ.toList.drop 3) ρ' (idv (SF lcS) D (w.tp t))) :
  Own Tryd.prog true (RK SB w) (fun _ => True) (fun _ => False) (Yt SB w) none_ (G ((b4.at a (.inRegion CJ (2 :: List.range' 3 6) :: [.code CK])).finish u) []) w := by
 rw [Frame.finish_at]
 have hd : (CJ[2]?).bind (·.dst) = some 23 := by simp only [CJ, CK, s3, CW, Tryd.f4, Option.getD_some]; rfl
 rw [hd]
 have hf := hf.put (d := 23) (by omega) u
 have ha := QS hf
 have hTs : (a.put (some 23) u).tmps.size = 158 := hf.size
 have get : ∀ i v, i < 158 → upd ρ 23 u i = v → (a.put (some 23) u).tmps[i]? = some v := fun i v hi hv => by
  have e1 := hf.get i
  rw [hv, Array.getD_eq_getD_getElem?] at e1
  have e3 : i < (a.put (some 23) u).tmps.size := by rw [hTs]; exact hi
  rw [Array.getElem?_eq_getElem e3] at e1 ⊢
  exact congrArg some e1
 have t0 := get 0 _ (by omega) h0
 have t1 := get 1 _ (by omega) h1
 have t23 := get 23 u (by omega) rfl
 rw [ha]
 generalize (a.put (some 23) u).tmps = T at hTs t0 t1 t23 ⊢
 clear get ha hf
 have hg : DJ Tryd.prog (fun f' T' w => f' = 4 ∧ JG Tryd.prog (fun u w => Ending.returned u = .returned (.bool true)) f' T' w) (fun f' T' w => f' = 4 ∧ T'.size = Tryd.f4.ntmps ∧ JG Tryd.prog (fun u w => Ending.returned u = .returned (.bool true)) f' T' w)
   ⟨fm 4 (vwT (SF lcS) D T) [.inRegion CJ (List.range' 3 6), .code CK, mkI], [], idv (SF lcS) D w⟩ := by
  refine NY (R := fun en _ => en = .returned (.bool true)) (l := CJ.toList.drop 3) Tryd.func4 (by rw [Qz, ← hTs]; simp [vwT]) (by kernel_rfl) (fun j => by simp) fun t => ?_
  refine hW t _ ⟨Gx t0 (.int _ _), Gx t1 (F8 hA), Gx t23 hu, trivial⟩
 have hlow : ∀ M' : Nat → Prop, (∀ k, M' k → none_ k ∨ w.heap.size ≤ k) → ∀ k, M' k → w.heap.size ≤ k := fun M' hM k hk => (hM k hk).elim (fun e => e.elim) id
 have key := Sa (P := Tryd.prog) (S := lcS) (main := true) (R := RK SB w) (Sh := fun _ => True) (X := fun _ => False) (Stop := Yt SB w) (cs0 := []) (M := none_) (O := fun _ => False) (KR := fun f' T' w => f' = 4 ∧ JG Tryd.prog (fun u w => Ending.returned u = .returned (.bool true)) f' T' w) (KO := fun f' T' w => f' = 4 ∧ T'.size = Tryd.f4.ntmps ∧ JG Tryd.prog (fun u w => Ending.returned u = .returned (.bool true)) f' T' w) (r := [])
  (fun w1 => Kept SB w w1) (fun M w1 w2 r h => h.rely r) (fun M' w1 w2 hM s h => h.spares (hlow M' hM) s) (Kept.refl _ _) IJ (f := 4) (T0 := vwT (SF lcS) D T) (T := T) Tryd.func4 Ue hgsz (fun g hg => hV g (by simpa [lcS] using hg)) hC.o (SX _ _ T) hg ?_ ?_
 ·rw [List.append_nil] at key
  exact key
 ·rintro π f t t' todo' v w1 M' hle ht hf hK hW hown hM0 hMb hJ
  obtain ⟨rfl, fn, u, hfn, hr, hu⟩ := hK v.tape fun _ _ => rfl
  rw [Tryd.func4] at hfn
  cases hfn
  exact .stop fun w2 r2 => ⟨hJ.rely r2, t', todo', rfl, Nt hr hu ht⟩
 ·rintro π f t t' v w1 M' hle ht ⟨rfl, hT', fn, u, hfn, hr, hu⟩ hW hown hM0 hMb hJ
  rw [Tryd.func4] at hfn
  cases hfn
  refine Own.move rfl (fun w2 => stepG_end) fun w2 r2 => .stop fun w3 r3 => ⟨(hJ.rely r2).rely r3, t', [], rfl, Nt hr hu ht⟩
end
theorem AaO (t' : Array Value) (todo' : List Item) (w : World) : stepG Tryd.prog true (G (fmR 4 t' todo') []) w = .ended (.done (t'.getD 4 undef)) w #[] := by
 have hr : Tryd.f4.results = #[.tmp 4] := by kernel_rfl
 have hrun : (results Tryd.f4 t').run Tryd.prog w = .ok (t'.getD 4 undef) w := by
  rw [Array.getD_eq_getD_getElem?]
  simp [results, hr]
 have hev : (results Tryd.f4 t').events Tryd.prog w #[] = #[] := by simp [results, hr]
 simp [G, fmR, fm, stepG, unwind, doReturn, Frame.at, base, Tryd.func4, seen, GStep.after, hrun, hev]
section
variable {W0 : World} {o : Int} {l : List Op8} {A : Option Addr} {n c : Nat}
theorem PR {F : FuncId → Prop} {π : Ren} {a b : Value} (ha : VR F π a a) (hb : VR F π b b) : VR F π (.tuple #[a, b]) (.tuple #[a, b]) := .tuple' (AR.self fun u hu => by
 simp only [List.mem_toArray, List.mem_cons, List.not_mem_nil, or_false] at hu
 rcases hu with rfl | rfl
 ·exact ha
 ·exact hb)
theorem PS {F : FuncId → Prop} {π : Ren} {a b d : Value} (ha : VR F π a a) (hb : VR F π b b) (hd : VR F π d d) : VR F π (.agg #[a, b, d]) (.agg #[a, b, d]) := .agg' (AR.self fun u hu => by
 simp only [List.mem_toArray, List.mem_cons, List.not_mem_nil, or_false] at hu
 rcases hu with rfl | rfl | rfl
 ·exact ha
 ·exact hb
 ·exact hd)
def DO (A : Option Addr) (g : Nat) (Cs : Nat → Option Addr) (b : Nat) : Prop := D7 A b ∨ b = g ∨ ∃ k, k < 8 ∧ (Cs k).map (·.block) = some b
def Yu (W0 : World) (v : Value) (w : World) : Prop := v = .bool true ∧ Kept (fun _ => False) W0 w
def ZL (W0 : World) (_ : Nat → Prop) (g : Goroutine) (w : World) : Prop := g.status = .running ∧ ∀ d, ∃ v, stepG Tryd.prog true g (w.at d) = .ended (.done v) (w.at d) #[] ∧ Yu W0 v (w.at d)
theorem Aas {SB' : Nat → Prop} {w : World} {t' : Array Value} {todo' : List Item} (ht : t'.getD 4 undef = .bool true) (hK : Kept (fun _ => False) W0 w) : ZL W0 SB' (G (fmR 4 t' todo') []) w :=
 ⟨rfl, fun d => ⟨_, AaO t' todo' (w.at d), ht, ⟨hK.size, hK.blk, hK.tape, hK.os, hK.out⟩⟩⟩
theorem PV {SB' : Nat → Prop} {w : World} {D : Nat → Prop} {z : Nat} (hK : Kept (fun _ => False) W0 w) (hSB : ∀ b, SB' b → W0.heap.size ≤ b ∧ b < w.heap.size) (hC : Closed (RK SB' w) w D) (hV : ∀ g, g < 4 → D g) (hgsz : Tryd.prog.globals.size ≤ w.heap.size) {ρ : Env} {a : Act} (hf : Fit 158 ρ a) (h0 : ρ 0 = .int .i64 o) (h1 : ρ 1 = .slice A n c) (hA : ∀ b, A.map (·.block) = some b → D b) {u : Value} (hu : VR (SF lcS) (idr D 0) u u)
  (hW : ∀ t ρ', Has ρ' [(0, .int .i64 o), (1, .slice A n c), (23, u)] → WL Tryd.prog Tryd.f4.ntmps CJ (Cy (fun ρ w => W Tryd.prog Tryd.f4.ntmps CK (DR Tryd.prog Tryd.f4 (fun en _ => en = .returned (.bool true))) ρ w) (fun _ _ _ => False)) (CJ.toList.drop 3) ρ' (idv (SF lcS) D (w.tp t))) :
  MBX Tryd.prog SB' z z (G ((b4.at a (.inRegion CJ (2 :: List.range' 3 6) :: [.code CK])).finish u) []) w (ZL W0) := by
 refine MBX.mono (MB.x (MB.own (fun _ _ h => h) (UA (SB := SB') hC hV hgsz hf h0 h1 hA hu hW) (fun M a' w' h => ?_) (fun k hk => hk.elim) (fun k hk => hk) (fun k hk => (hSB k hk).2))) ?_
 ·obtain ⟨_, t', todo', rfl, _⟩ := h
  rfl
 ·rintro SB3 g3 w3 ⟨rfl, hs3, M3, hM3, hk3, t', todo', rfl, ht⟩
  exact Aas ht (hK.trans hk3 fun b hb hs => by have := (hSB b hs).1; omega)
theorem Zc (C : DN (fun _ => False) W0 A n c l) {T : Array Value} (hT : T.size = Tryd.f4.ntmps) (hTe : (fun i => T.getD i undef) = entry #[.int .i64 o, .slice A n c]) (hTs : ∀ u ∈ T, VR (SF lcS) (idr (D7 A) 0) u u) :
  ∃ z', MBX Tryd.prog (fun _ => False) 1 z' (G (fm 4 T [.code CW]) []) W0 (ZL W0) := by
 have first := MB.x (MB.own (z := 1) (fun _ _ h => h) (Xf C hT hTe hTs) (fun M a' w' h => by
  rcases h with ⟨_, ⟨_, t', todo', rfl, _⟩ | ⟨_, ρ, a, _, _, _, rfl⟩⟩
  ·rfl
  ·rfl) (fun k hk => hk.elim) (fun k hk => hk) (fun k hk => hk.elim))
 by_cases h8 : 8 < l.length
 ·refine ⟨1, first.mono ?_⟩
  rintro SB1 g1 w1 ⟨rfl, hs1, M1, hM1, hk1, ⟨_, t', todo', rfl, ht⟩ | ⟨h, _⟩⟩
  ·exact Aas ht hk1
  ·omega
 have hl : l.length ≤ 8 := by omega
 by_cases hok : BA o l 0
 rotate_left
 ·refine ⟨1, first.bind ?_⟩
  rintro SB1 g1 w1 ⟨rfl, hs1, M1, hM1, hk1, ⟨h, _⟩ | ⟨_, ρ, a, hf, h0, h1, rfl⟩⟩
  ·omega
  have C1 : DN (fun _ => False) w1 A n c l := C.kept hk1 fun b hb => hb.elim
  refine MBX.bind (QN C1 (wkn := 3) (by omega) (by omega) (by omega) (by omega) (by omega) hok) ?_
  rintro SB2 g2 w2 ⟨rfl, x, hx, rfl, hk2⟩
  have C2 : DN (fun _ => False) w2 A n c l := C1.kept hk2 fun b hb => hb.elim
  have hx' := hx
  obtain ⟨z, rfl⟩ := hx'
  refine PV (D := D7 A) (hk1.trans hk2 fun _ _ h => h) (fun b hb => hb.elim) ⟨fun k hk => C2.lt hk, fun k hk => C2.row hk⟩ (fun g hg => .inr hg) C2.gsz hf h0 h1 (fun b hb => .inl hb) ?_ fun t ρ' hH => Ty (Fx t (Rd.mono C2.ops fun k hk => .inl hk) : BK (idv (SF lcS) (D7 A) (w2.tp t)) (D7 A) (.slice A n c) l) (Gi t (fun g hg => .inr hg) C2.kn) hx hH
  exact PR (PS (.int _ _) (.int _ _) (.slice0 _ _)) (.iface _ (.int _ _))
 refine ⟨1 + 3, first.bind ?_⟩
 rintro SB1 g1 w1 ⟨rfl, hs1, M1, hM1, hk1, ⟨h, _⟩ | ⟨_, ρ, a, hf, h0, h1, rfl⟩⟩
 ·omega
 have C1 : DN (fun _ => False) w1 A n c l := C.kept hk1 fun b hb => hb.elim
 refine MBX.bind (SA C1 (wkn := 3) (by omega) (by omega) (by omega) (by omega) (by omega) (by omega) (by omega) hok (fun k _ => Zu hok hl k) (fun k _ => Yk hok hl k) (fun k _ => Yo hok hl k)) ?_
 rintro SB2 g2 w2 ⟨Wg, u, rfl, hwg1, hwg2, rfl, hk2, hout⟩
 have hK2 := hk1.trans hk2 fun _ _ h => h
 have C2 : DN (fun b => False ∨ b = Wg) w2 A n c l := C1.kept hk2 fun b hb => hb.imp id fun e => by rw [e]; exact ⟨hwg1, hwg2⟩
 have hSB : ∀ b, (False ∨ b = Wg) → W0.heap.size ≤ b ∧ b < w2.heap.size := fun b hb => by
  rcases hb with hb | rfl
  ·exact hb.elim
  ·exact ⟨Nat.le_trans hk1.size hwg1, hwg2⟩
 rcases hout with ⟨k, hk8, hc2, hc1, rfl⟩ | ⟨hone, g, co, cur, e, Cs, es, rfl, hco, hco2, hQ, hg, hrow⟩
 ·exact PV (D := D7 A) hK2 hSB ⟨fun k hk => C2.lt hk, fun k hk => C2.row hk⟩ (fun g hg => .inr hg) C2.gsz hf h0 h1 (fun b hb => .inl hb) (PR (PS (.int _ _) (.int _ _) (.slice0 _ _)) .nilIface) fun t ρ' hH =>
   Q3 (Fx t (Rd.mono C2.ops fun k hk => .inl hk) : BK (idv (SF lcS) (D7 A) (w2.tp t)) (D7 A) (.slice A n c) l) (Gi t (fun g hg => .inr hg) C2.kn) hok hl (.inl rfl) (.inl ⟨k, hk8, rfl, rfl, hc2⟩) hH
 ·have dg : DO A g Cs g := .inr (.inl rfl)
  have dC : ∀ k, k < 8 → ∀ b, (Cs k).map (·.block) = some b → DO A g Cs b := fun k hk b hb => .inr (.inr ⟨k, hk, hb⟩)
  have dq : ∀ b, QB w1 Wg w2 b → RK (fun b => False ∨ b = Wg) w2 b := fun b hb => ⟨hb.2.1, fun h => h.elim id hb.2.2⟩
  have hC : Closed (RK (fun b => False ∨ b = Wg) w2) w2 (DO A g Cs) := by
   refine ⟨fun b hb => ?_, fun b hb => ?_⟩
   ·rcases hb with hb | rfl | ⟨k, hk, hb⟩
    ·exact C2.lt hb
    ·exact dq _ hQ
    ·obtain ⟨x, hx, rfl⟩ := Option.map_eq_some_iff.1 hb
     exact dq _ ((hrow k hk).2.blk hx).1
   ·rcases hb with hb | rfl | ⟨k, hk, hb⟩
    ·exact C2.row hb
    ·exact ⟨_, _, _, hg⟩
    ·obtain ⟨x, hx, rfl⟩ := Option.map_eq_some_iff.1 hb
     obtain ⟨_, _, q1, q2, q3⟩ := (hrow k hk).2.blk hx
     exact ⟨_, _, _, q3⟩
  have hor : ∀ t, Or4 (idv (SF lcS) (DO A g Cs) (w2.tp t)) o l g Cs es := fun t => by
   have cell : ∀ {x : Addr} {v : Value}, DO A g Cs x.block → w2.cell? x = some v → VR (SF lcS) (idr (DO A g Cs) 0) v v → (idv (SF lcS) (DO A g Cs) (w2.tp t)).cell? x = some v := fun hd hc hv => IK (w := w2.tp t) hd hc hv
   refine ⟨fun k hk => ?_, fun k hk => ?_, hone⟩
   ·refine cell dg ?_ (F8 (dC k hk))
    simp only [World.cell?, hg]
    exact (hrow k hk).1
   ·obtain ⟨A1, c1, e1, g1, g2, g3, g4⟩ := (hrow k hk).2.rd
    injection e1 with e1 e2 e3
    subst e1; subst e3
    refine ⟨_, _, rfl, g1, g2, g3, fun hpos => ?_⟩
    obtain ⟨b, o', hb, hd, hc⟩ := g4 hpos
    refine ⟨b, o', hb, trivial, fun j v hj => cell (dC k hk _ hd) (hc j v hj) ?_⟩
    obtain ⟨i, _, rfl⟩ := List.mem_map.1 (List.mem_of_getElem? hj)
    exact .int _ _
  exact PV (D := DO A g Cs) hK2 hSB hC (fun g hg => .inl (.inr hg)) C2.gsz hf h0 h1 (fun b hb => .inl (.inl hb)) (PR (PS (.int _ _) (.int _ _) (F8 fun b hb => by cases hb; exact dg)) .nilIface) fun t ρ' hH =>
   Q3 (Fx t (Rd.mono C2.ops fun k hk => .inl (.inl hk)) : BK (idv (SF lcS) (DO A g Cs) (w2.tp t)) (DO A g Cs) (.slice A n c) l) (Gi t (fun g hg => .inl (.inr hg)) C2.kn) hok hl (.inr ⟨g, co, rfl⟩) (.inr ⟨rfl, rfl, g, co, Cs, es, rfl, hor t⟩) hH
theorem U1 (C : DN (fun _ => False) W0 A n c l) : ∃ M last o' w' t', runNT Tryd.prog (M + 1) (solo (G (Frame.enter Tryd.prog 4 #[.int .i64 o, .slice A n c] .normal) []) W0) #[] = (.ended o' w', t') ∧ runN Tryd.prog M (solo (G (Frame.enter Tryd.prog 4 #[.int .i64 o, .slice A n c] .normal) []) W0) = .next last ∧ step Tryd.prog last = .ended o' w' ∧ Go.Conc.Good Tryd.prog (Yu W0) last o' w' t' := by
 have hb4 : Tryd.f4.body = some CW := by
  unfold CW
  cases h : Tryd.f4.body with
  | some c => rfl
  | none => exact absurd (show Tryd.f4.body.isSome = true by kernel_rfl) (by rw [h]; simp)
 rw [enter_at _ Tryd.func4 hb4]
 obtain ⟨z', h⟩ := Zc (o := o) C (T := #[.int .i64 o, .slice A n c] ++ Array.replicate (Tryd.f4.ntmps - (#[.int .i64 o, .slice A n c] : Array Value).size) undef) (by rw [Qz]; simp) (MZ _ _) (fun u hu => by
  rcases Array.mem_append.1 hu with h | h
  ·simp only [List.mem_toArray, List.mem_cons, List.not_mem_nil, or_false] at h
   rcases h with rfl | rfl
   ·exact .int _ _
   ·exact F8 fun b hb => .inl hb
  ·rw [(Array.mem_replicate.1 h).2]; exact VR.undef)
 exact VG h
end
theorem UE {w : World} {D : Nat → Prop} {A : Option Addr} {n c : Nat} {l : List Op8} (h : BK w D (.slice A n c) l) : BK w (fun b => A.map (·.block) = some b) (.slice A n c) l := by
 obtain ⟨A', c', h1, h2, h3, h4, h5⟩ := h
 injection h1 with e1 e2 e3
 subst e1
 subst e3
 refine ⟨A, c, by rw [e2], h2, h3, h4, fun hn => ?_⟩
 obtain ⟨b, o, e, _, hc⟩ := h5 hn
 exact ⟨b, o, e, by rw [e]; rfl, hc⟩
theorem Sq : ((List.range 4).all fun g => (((begin Tryd.prog (fun _ _ => 0) default).world.heap[g]?).bind Obj.row?).isSome) = true := by kernel_rfl
theorem MX : Tryd.prog.globals.size = 4 := by kernel_rfl
theorem XL {w : World} {base : Nat} {A : Option Addr} {n c : Nat} {l : List Op8} (hS : BK w (fun k => k < w.heap.size) (.slice A n c) l) (ho : Value.okWide Tryd.prog w .any base 22 (.slice A n c)) (hsh : w.ShapedOpen Tryd.prog) (hk : Dq w) : DN (fun _ => False) w A n c l := by
 have hgl : ∀ g, g < 4 → ∃ cs e f, w.heap[g]? = some (.cells cs e f) := fun g hg => by
  have h1 := List.all_eq_true.1 Sq g (List.mem_range.2 hg)
  obtain ⟨⟨zero, t⟩, hz⟩ := Option.isSome_iff_exists.1 h1
  obtain ⟨cs, hc, _⟩ := hsh.1 g zero t (by rw [MX]; exact hg) hz
  exact ⟨_, _, _, hc⟩
 refine ⟨UE hS, fun b hb => ?_, hk, hgl, ?_, fun b hb => hb.elim⟩
 ·obtain ⟨a, rfl, rfl⟩ := Option.map_eq_some_iff.1 hb
  simp only [Value.okWide, Cell.okWide, Tryd.underlying22, Cell.ok] at ho
  obtain ⟨_, _, _, _, row, cells, hs, _⟩ := ho
  unfold World.shape? at hs
  split at hs
  ·next c0 e0 f0 hh => exact ⟨_, _, _, hh⟩
  ·cases hs
 ·rw [MX]
  obtain ⟨cs, e, f, h3⟩ := hgl 3 (by omega)
  have := (Array.getElem?_eq_some_iff.1 h3).1
  omega
theorem Kept.below {w w1 : World} (h : Kept (fun _ => False) w w1) : Below w.heap.size w w1 := ⟨h.os, h.tape, h.out, h.size, fun k hk => h.blk k hk id⟩
end Go.Proofs.YtkkmokodaejheaaDoor
namespace Go.Proofs.YtkkmokodaejheaaDoor
open Go Go.Conc
theorem Gb {H : Type} {enc : TypeId × Value → H} {a : Assume} {C : Checked} {os : Os} {f : FuncId} {fn : Func} {s : ChangeSpec} {conds : List PathCond} {apart fresh handsOn again : Bool} {X : World → Array Value → Prop}
  (hX : ∀ (w w' : World) (args : Array Value), w.heap = w'.heap → X w args → X w' args)
  (own : ownKnob C.prog.godebug = none) (started : os.Started) (hfn : C.prog.funcs[f]? = some fn)
  (witness : ∃ (w : World) (tape : Tape) (i : Input), w.os = os ∧ (w.forCall tape i).Shaped C.prog ∧ i.vars = [] ∧ Input.okWide C.prog (w.forCall tape i) .any w.heap.size f i ∧
   ((s.pre enc C.prog fn conds apart (w.forCall tape i).memory i.args ∧ X (w.forCall tape i).memory i.args) ∧ sizedMet enc C.prog fn (OpenSpec.ofChange s) apart (w.forCall tape i).memory i.args) ∧ a.holds C.prog (lone (Frame.enter C.prog f i.args .normal) [] (w.forCall tape i)))
  (runs : ∀ (W : World) (base : Nat) (args : Array Value) (ds gs : List (DataW H)) (before : List MemPlace), W.ShapedOpen C.prog →
   (∀ (j : Nat) t v, fn.params[j]? = some t → args[j]? = some v → Value.okWide C.prog W .any base t v) →
   DataW.Whole enc C.prog fn.params.toList s.vars apart W args.toList ds gs before →
   conds.all (PathCond.test C.prog ⟨fn.params.toList, ds, s.plain.varTypes C.prog, gs⟩) = true →
   (DataW.weightsEach C.prog (fn.params.toList ++ s.plain.varTypes C.prog) (ds ++ gs)).all (· ≤ reachBytes) = true → X W args →
   a.holds C.prog (lone (Frame.enter C.prog f args .normal) [] W) →
   ∃ M last o w' t', runNT C.prog (M + 1) (solo (G (Frame.enter C.prog f args .normal) []) W) #[] = (.ended o w', t') ∧ runN C.prog M (solo (G (Frame.enter C.prog f args .normal) []) W) = .next last ∧
    step C.prog last = .ended o w' ∧ Conc.Good C.prog (fun v W' => s.post enc C.prog fn apart fresh handsOn again W args v W') last o w' t') :
  ReturnsInLeavingWide a C os f .any (fun w args => (s.pre enc C.prog fn conds apart w args ∧ X w args) ∧ sizedMet enc C.prog fn (OpenSpec.ofChange s) apart w args) (s.post enc C.prog fn apart fresh handsOn again) := by
 refine returnsInLeavingWide_of_good own started witness ?_
 intro w tape i _ hsh _ hok hpre hholds
 obtain ⟨_, _, _, fn', hfn', _, _, _, _, hval⟩ := hok
 have e : fn' = fn := Option.some.inj (hfn'.symm.trans hfn)
 subst e
 obtain ⟨⟨⟨ds, gs, before, hw, hc⟩, hx⟩, hz⟩ := hpre
 have hw' := DataW.Whole.of_heap (w' := w.forCall tape i) (by rfl) hw
 obtain ⟨M, last, o, w', t', h1, h2, h3, h4⟩ := runs (w.forCall tape i) w.heap.size i.args ds gs before hsh hval hw' hc (hz.weights hw) (hX _ _ _ (by rfl) hx) hholds
 exact ⟨M, last, o, w', t', h1, h2, h3, h4.mono fun v hp => ChangeSpec.post_blind hp⟩
theorem J8 (Lk : Looks) {p : Pinned} {s : OpenSpec} {c : OpenClaim} (kinds : List LaidKind) (tests : Bool) (har : Bool × String) (lk : Bool)
  (hc : c.holds p s) (hw : c.wfByText s = true)
  (htie : c.laidByTextAt Lk p kinds tests)
  (hst : c.start = .entering) (hnb : c.noBlocks = false ∧ c.again = false) (hm : p.checked.prog.mainIs = some (har.1, har.2.toList)) (hn : (!har.1 && har.2.isEmpty && !lk) = false)
  (hl : ∀ f fn, p.checked.prog.funcNamed c.func = some f → p.checked.prog.funcs[f]? = some fn → lk = p.checked.prog.looks [] ∧ ∀ (j : Nat) t, fn.params[j]? = some t → p.checked.prog.wantsStandIn t = false)
  (hg : true = c.goesBy p.checked.prog) :
  Claim7.holds p (.plain s) { stood := { row := c, standIns := [], harness := har, looks := lk }, kinds := [], alts := [], goes := true, laidByText := true, laidKinds := kinds, laidTests := tests, laidLooks := Lk } := by
 have h6 : Claim7.isSixth { stood := { row := c, standIns := [], harness := har, looks := lk }, kinds := [] } = false := by simpa [Claim7.isSixth] using hn
 refine ⟨?_, (fun D hD => by cases hD), htie, (fun h => by cases h), hg⟩
 obtain ⟨_, rest⟩ := Claim7.new_of_sixth hc har lk hst hnb hm h6 hl
 exact ⟨hw, rest⟩
end Go.Proofs.YtkkmokodaejheaaDoor
