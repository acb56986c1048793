/- Texts of the proof, merged: Ld4, Ld5, Ld6, Ld7, Ld8, LeA, LeB, LeC, LeD, LeE, LeF, LeG, LeH, LeI, Lvw. -/
import Derived.Test.YtkkmokodaejheaaDoorPLd3
import Derived.Test.YtkkmokodaejheaaDoorPLaidL
import Derived.Conc.LeavingOf
import Derived.Handed
import Derived.SevenTiedAt
import Derived.LaidLaws
namespace Go.Proofs.YtkkmokodaejheaaDoor
open Go Go.Conc Go.RowKit
open Go.ConcR (WgAt DC0)
open Go.ConcN (sumTo)
set_option linter.unusedVariables false
set_option linter.unusedSimpArgs false
set_option maxRecDepth 100000
theorem shunOf_wg (SB : Nat → Prop) (Wg : Nat) : (fun l => (∃ a : Addr, l = Go.Loc.cell a ∧ SB a.block) ∨ ∃ ad : Addr, l = .cell ad ∧ ad.block = Wg) = shunOf (fun b => SB b ∨ b = Wg) := by
 funext l
 apply propext
 constructor
 ·rintro (⟨a, h1, h2⟩ | ⟨a, h1, h2⟩)
  ·exact ⟨a, h1, .inl h2⟩
  ·exact ⟨a, h1, .inr h2⟩
 ·rintro ⟨a, h1, h2 | h2⟩
  ·exact .inl ⟨a, h1, h2⟩
  ·exact .inr ⟨a, h1, h2⟩
theorem evL_dc0 {Shun : Go.Loc → Prop} {B : Nat} : ∀ w w' es, DC0 w w' es → ∀ e ∈ es, EvL Shun B e := fun w w' es h e he => by
 rw [h.2] at he
 simp at he
noncomputable def wgz : Value := ((Tryd.prog.info? 60).bind (·.zero)).getD undef
theorem wgz_eq : (Tryd.prog.info? 60).bind (·.zero) = some wgz := by
 unfold wgz
 cases h : (Tryd.prog.info? 60).bind (·.zero) with
 | some z => rfl
 | none => exact absurd (show ((Tryd.prog.info? 60).bind (·.zero)).isSome = true by kernel_rfl) (by rw [h]; simp)
theorem wgz_cells : wgz.cells = #[.int .u64 0, .int .u32 0] := by kernel_rfl
theorem ops9_run (a : Act) (w : World) (cs : List Frame) : stepG Tryd.prog true (G (b7.at a (.inRegion ops9 [0] :: [.code s10])) cs) w = .go (G (b7.at (a.put (some 16) (.pointer (some ⟨w.heap.size, 0, none⟩))) (.inRegion ops9 [] :: [.code s10])) cs) (w.alloc (.cells #[.int .u64 0, .int .u32 0] 60)) #[] := by
 have ho : (ops9.getD 0 default).op = .alloc 60 := by simp only [ops8, ops9, s9, s10, s8, body7, Tryd.f7, Option.getD_some]; rfl
 have he : a.eval = ev (fun i => a.tmps.getD i undef) := by funext x; cases x <;> rfl
 have hr := run_alloc (P := Tryd.prog) (ρ := fun i => a.tmps.getD i undef) (w := w) ho wgz_eq
 have hl := ev_alloc (P := Tryd.prog) (ρ := fun i => a.tmps.getD i undef) (w := w) ho
 rw [← he] at hr hl
 rw [wgz_cells] at hr
 have := stepG_value (P := Tryd.prog) (main := true) (b := b7) (a := a) (cs := cs) (k := [.code s10]) (ops := ops9) (i := 0) (rest := []) (o := ops9.getD 0 default) (by simp only [ops8, ops9, s9, s10, s8, body7, Tryd.f7, Option.getD_some]; rfl) (by simp only [ops8, ops9, s9, s10, s8, body7, Tryd.f7, Option.getD_some]; rfl) kind7 hr
 have hd : (ops9.getD 0 default).dst = some 16 := by simp only [ops8, ops9, s9, s10, s8, body7, Tryd.f7, Option.getD_some]; rfl
 rw [hd, listed_none hl] at this
 exact this
theorem RowR.self {M : Nat → Prop} {w : World} {e size n c : Nat} {A : Option Addr} {xs : List Value} (h : RowR M w e size A n c xs) : RowR (fun b => M b ∧ A.map (·.block) = some b ∧ ∃ cs f, w.heap[b]? = some (.cells cs e f)) w e size A n c xs := by
 obtain ⟨h0, hn, hc, hh⟩ := h
 exact ⟨h0, hn, hc, hh.imp id fun ⟨g, cur, h1, h2, h3, h4⟩ => ⟨g, cur, h1, ⟨h2, by rw [h1]; rfl, _, _, h3⟩, h3, h4⟩⟩
section
variable {SB M : Nat → Prop} {w0 w : World} {o bud : Int} {l : List Op8} {A : Option Addr} {n c : Nat} {cs : List Frame} {g : Goroutine}
set_option maxHeartbeats 1000000 in
theorem phase8 {z : Nat} {wkn : Nat} (C : Ctx7 SB w0 A n c l) (h9 : Stop9 SB w0 o bud (wkn : Int) l cs M g w) (hM : ∀ k, M k → k < w.heap.size ∧ ¬ SB k) (hz0 : 0 < z) (hz1 : z ≤ 1000) (hw0 : 1 ≤ wkn) (hw1 : wkn ≤ 64) :
  MBX Tryd.prog SB z (z + wkn) g w (Post8 SB w0 o bud l cs) := by
 obtain ⟨T, b4, b6, b8, b12, b14, gp, gn, gf, As, cz, Bs, dz, Ch, bk, rfl, h⟩ := h9
 obtain ⟨z0, rfl⟩ : ∃ z0, z = z0 + 1 := ⟨z - 1, by omega⟩
 intro gs sl t q hz h0 hL hP
 obtain ⟨N1, gs1, d, sl1, t1, q1, hr1, hz1, h01, hL1, hP1⟩ := quiet (P := Tryd.prog) (S := shunOf SB) (B := w.heap.size) (w := w) (a := G (b7.at ⟨T, []⟩ (.inRegion ops9 [0] :: [.code s10])) cs) rfl
  (fun w' => (G (b7.at ((⟨T, []⟩ : Act).put (some 16) (.pointer (some ⟨w'.heap.size, 0, none⟩))) (.inRegion ops9 [] :: [.code s10])) cs, w'.alloc (.cells #[.int .u64 0, .int .u32 0] 60))) (fun d => ops9_run _ _ _) gs sl t q hz h0 hL hP
 dsimp only at hr1 h01
 have hd1 : ((w.at d).alloc (.cells #[.int .u64 0, .int .u32 0] 60)).heap[w.heap.size]? = some (.cells #[.int .u64 0, .int .u32 0] 60) := alloc_get (w.at d) _
 have hsz1 : ((w.at d).alloc (.cells #[.int .u64 0, .int .u32 0] 60)).heap.size = w.heap.size + 1 := alloc_size (w.at d) _
 have hsp1 : Spares (fun _ => False) w ((w.at d).alloc (.cells #[.int .u64 0, .int .u32 0] 60)) := by
  obtain ⟨a1, a2, a3, a4, a5⟩ := spares_alloc (fun _ => False) (w.at d) (.cells #[.int .u64 0, .int .u32 0] 60)
  exact ⟨a1, a2, a3, a4, a5⟩
 have h01 : gs1[0]? = some (G (b7.at ((⟨T, []⟩ : Act).put (some 16) (.pointer (some ⟨w.heap.size, 0, none⟩))) (.inRegion ops9 [] :: [.code s10])) cs) := h01
 generalize (w.at d).alloc (.cells #[.int .u64 0, .int .u32 0] 60) = w1 at hr1 hd1 hsz1 hsp1
 have hold : ∀ b, b < w.heap.size → w1.heap[b]? = w.heap[b]? := fun b hb => hsp1.rest b id hb
 have hK1 : Kept SB w0 w1 := h.kept.spares (fun _ h => h.elim) hsp1
 have C1 : Ctx7 SB w1 A n c l := C.kept hK1 (fun b hb => .inl hb)
 have box1 : Box7 o bud l b4 b6 b8 b12 b14 gp gn gf As cz Bs dz M w1 := h.box.keep fun b hb hl => ⟨hb, hold b hl⟩
 have hch1 : w1.heap[Ch]? = some (.chan 0 #[] false 0 0 false) := (hold Ch (hM Ch h.mch).1).trans h.chan
 obtain ⟨e, hbk⟩ := h.bkc
 have hbk1 := (hold bk (hM bk h.mbk).1).trans hbk
 have hkn1 := kn8_of C1 box1
 rw [hsz1] at hkn1
 obtain ⟨c7, hc7⟩ : ∃ c7, c7 = cfg7 (l8 w Ch bk b4 b12 b6 b14 gf gp o bud As cz l) (fndK o bud l) (w.heap.size + 1) z0 (z0 + wkn) t1.size SB b8 gn b14 cs := ⟨_, rfl⟩
 have K := ok8 C h hM (z0 := z0) (N := z0 + wkn) (T0 := t1.size) (cs := cs) (by omega) (by omega)
 have hcsh : c7.CSh w1 := by
  rw [hc7]
  exact ⟨⟨_, _, box1.hf, by decide⟩, lwk8 box1 hbk1 hkn1⟩
 have hwg : WgAt c7.ty c7.A.Wg w1 0 0 := by rw [hc7]; exact hd1
 have hch : ∃ s r tm, w1.heap[c7.A.Ch]? = some (.chan 0 #[] false s r tm) := by rw [hc7]; exact ⟨_, _, _, hch1⟩
 have hSh : c7.Sh w1 := ⟨⟨_, _, hwg⟩, (let ⟨s, r, tm, hh⟩ := hch; ⟨false, s, r, tm, hh⟩), hcsh⟩
 have hs := spawns8 (z0 := z0) (N := z0 + wkn) (T0 := t1.size) C h hM (by omega) (by omega) hw1 (w1 := w1) (by rw [← hc7]; exact hSh)
 rw [← hc7] at K hs
 have e1 : c7.A.z0 = z0 := by rw [hc7]; rfl
 have e2 : c7.N = z0 + wkn := by rw [hc7]; rfl
 have e3 : c7.A.T0 = t1.size := by rw [hc7]; rfl
 have e4 : c7.A.Wg = w.heap.size := by rw [hc7]; rfl
 have e5 : c7.A.B0 = w.heap.size + 1 := by rw [hc7]; rfl
 have e6 : c7.A.Shun = shunOf SB := by rw [hc7]; rfl
 have e7 : c7.P = Tryd.prog := by rw [hc7]; rfl
 obtain ⟨n2, m2, t2, hr2, gs2, w2, sl2, a2, q2, rfl, hz2, h02, hTail, hL2, hP2, hRes, hcsh2, hrel⟩ := Cfg.phase (w := w1) (sl := sl1) K (B := w.heap.size) (by rw [e1]; exact hz1) h01 (by rw [e7]; exact hL1) (by rw [e6]; exact hP1) e3 (by rw [e4]; exact Nat.le_refl _) (by rw [e5, hsz1]; exact Nat.le_refl _) hwg hch hcsh (by rw [e2, e1, show z0 + wkn - z0 = wkn by omega]; exact hs)
 have hTail : ∃ T', T7 b8 gn b14 T' ∧ WaitTail Tryd.prog (G7 T' cs) a2 := by rw [hc7] at hTail; exact hTail
 obtain ⟨T', hT7, nW, hW⟩ := hTail
 rw [e7] at hL2 hr2
 obtain ⟨N3, gs3, a3, w3, sl3, t3, q3, hr3, hz3, h03, ⟨rfl, dr, rfl⟩, hL3, hP3⟩ := walk_beside (P := Tryd.prog) (D := DC0) evL_dc0 _ nW gs2 a2 w2 sl2 t2 q2 (Nat.le_refl _) h02 hL2 hP2 (hW w2)
 have hP3' : Past (shunOf fun b => SB b ∨ b = w.heap.size) (w2.at dr).heap.size t3 := by
  rw [e6, e4] at hP3
  have := hP3
  unfold shunOf at this
  rw [shunOf_wg] at this
  exact this
 have hR : ∀ b, b < w.heap.size → b ≠ Ch → b ≠ gf → ¬ SB b → w2.heap[b]? = w1.heap[b]? := fun b h1 h2 h3 h4 => hrel.mine b (.inr (by
  rw [hc7]
  show b < w.heap.size + 1 ∧ b ≠ w.heap.size ∧ b ≠ Ch ∧ b ≠ gf ∧ ¬ SB b
  exact ⟨by omega, by omega, h2, h3, h4⟩))
 have nCh : ∀ b, (∃ cs e f, w1.heap[b]? = some (.cells cs e f)) → b ≠ Ch := fun b ⟨cs, e, f, hc⟩ hb => by
  rw [hb, hch1] at hc
  cases hc
 have hm2 : ∀ b, M b → (∃ cs e f, w1.heap[b]? = some (.cells cs e f)) → b ≠ gf → w2.heap[b]? = w1.heap[b]? := fun b h1 h2 h3 => hR b (hM b h1).1 (nCh b h2) h3 (hM b h1).2
 have hsz2 : w.heap.size + 1 ≤ w2.heap.size := by rw [← hsz1]; exact hrel.size
 have hmb8 := hM b8 (h.box.mem _ (by simp))
 have hcs2 : ∃ cs e, w2.heap[gf]? = some (.cells cs e (0, 0)) := by
  rw [hc7] at hcsh2
  obtain ⟨⟨c2, e2, hg, _⟩, _⟩ := hcsh2
  exact ⟨c2, e2, hg⟩
 have hres : ∀ k, ∃ A' cc', k < 8 → (w2.cell? ⟨gf, 3 * k, none⟩ = some (.int .i64 (fndK o bud l k).code) ∧ w2.cell? ⟨gf, 3 * k + 1, none⟩ = some (.slice A' (fndK o bud l k).ord.length cc') ∧ w2.cell? ⟨gf, 3 * k + 2, none⟩ = some (.int .i64 (fndK o bud l k).ent)) ∧
   OrdAt (fun b => w0.heap.size ≤ b ∧ b < w2.heap.size ∧ b ≠ w.heap.size ∧ b ≠ b8) w2 A' cc' (fndK o bud l k).ord := by
  intro k
  by_cases hk : k < 8
  ·obtain ⟨Dk, h1, h2⟩ := hRes k (by rw [hc7]; exact hk)
   rw [hc7] at h1
   obtain ⟨A', cc', g0, g1, g2, g3⟩ := h1 hk
   refine ⟨A', cc', fun _ => ⟨⟨g0, g1, g2⟩, g3.keep (fun b hb => ?_) fun _ _ => rfl⟩⟩
   have h3 := h2 b hb
   rw [e5] at h3
   have h4 := h.kept.size
   exact ⟨by omega, h3.2, by omega, by omega⟩
  ·exact ⟨none, 0, fun hh => absurd hh hk⟩
 have hnf : ∀ b, b = b4 ∨ b = b6 ∨ b = b8 ∨ b = b12 ∨ b = b14 ∨ b = gp ∨ b = gn → b ≠ gf := fun b hb => Ne.symm (h.box.nf b hb)
 have keep : ∀ {b : Nat} {t : TypeId} {cc : Array Value}, M b → b ≠ gf → Blk w1 b t cc → Blk (w2.at dr) b t cc := fun {b t cc} h1 h2 h3 => (hm2 b h1 ⟨_, _, _, h3⟩ h2).trans h3
 refine ⟨N1 + (n2 + N3), gs3, G7 T' cs, w2.at dr, sl3, t3, q3, _, ?_, by rw [hz3, hz2, e2]; omega, h03, hL3, hP3', T', w.heap.size, b8, b14, gn, gf, Bs, dz, fun k => Classical.choose (hres k), fun k => Classical.choose (Classical.choose_spec (hres k)), rfl, hT7, rfl, ?_⟩
 ·rw [runNT_add, hr1]
  show runNT _ _ _ _ = _
  rw [runNT_add, hr2]
  exact hr3
 refine ⟨keep (h.box.mem _ (by simp)) (hnf _ (by simp)) box1.h14, hcs2, fun k hk => (Classical.choose_spec (Classical.choose_spec (hres k)) hk).1, fun k hk => (Classical.choose_spec (Classical.choose_spec (hres k)) hk).2, fun k hk => ?_, keep (h.box.mem _ (by simp)) (hnf _ (by simp)) box1.hn, keep (h.box.mem _ (by simp)) (hnf _ (by simp)) box1.h8,
  ⟨h.box.n8.1, h.box.n8.2, hnf _ (by simp)⟩, fun b hb => ?_, ⟨h.kept.size, ?_⟩, ?_⟩
 ·have hbf := h.box.bf k hk
  refine (RowR.self (box1.nums k hk)).keep fun b ⟨h1, h2, cs, f, h3⟩ hl => ⟨⟨h.low b h1, ?_, ?_, ?_⟩, hm2 b h1 ⟨_, _, _, h3⟩ fun e => hbf.1 (by rw [h2, e])⟩
  ·have := (hM b h1).1
   show b < w2.heap.size
   omega
  ·have := (hM b h1).1
   omega
  ·exact fun e => hbf.2 (by rw [h2, e])
 ·have h1 : M b := h.box.mem b (by rcases hb with rfl | rfl | rfl | rfl <;> simp)
  have := (hM b h1).1
  exact ⟨h.low b h1, by show b < w2.heap.size; omega, by omega⟩
 ·show w.heap.size < w2.heap.size
  omega
 ·refine ⟨Nat.le_trans hK1.size hrel.size, fun b h1 h2 => ?_, hrel.tape.trans hK1.tape, hrel.os.trans hK1.os, hrel.out.trans hK1.out⟩
  have h3 := h.kept.size
  have h4 := h.low Ch h.mch
  have h5 := h.low gf (h.box.mem _ (by simp))
  exact (hR b (by omega) (by omega) (by omega) h2).trans (hK1.blk b h1 h2)
end
end Go.Proofs.YtkkmokodaejheaaDoor
namespace Go.Proofs.YtkkmokodaejheaaDoor
open Go Go.Conc Go.RowKit
set_option linter.unusedVariables false
set_option linter.unusedSimpArgs false
set_option maxRecDepth 100000
theorem retQ_imp {P : Program} {fn : Func} {R R' : Ending → World → Prop} {e : Exit} {ρ : Env} {w : World} (h : retQ P fn R e ρ w) (hi : ∀ en w, R en w → R' en w) : retQ P fn R' e ρ w := by
 unfold retQ at h ⊢
 cases e with
 | normal => exact fun a ha => (h a ha).imp fun v hv => ⟨hv.1, hi _ _ hv.2⟩
 | ret => exact fun a ha => (h a ha).imp fun v hv => ⟨hv.1, hi _ _ hv.2⟩
 | _ => exact h
def numK (l : List Op8) (k : Nat) : List Int := (kix l l.length k).map fun i : Nat => (i : Int)
theorem numK_len (l : List Op8) (k : Nat) : (numK l k).length = klen l l.length k := by simp [numK]
def D22 (b8 b14 gn gf : Nat) (A' Bs : Nat → Option Addr) (b : Nat) : Prop := b < 4 ∨ (b = b8 ∨ b = b14 ∨ b = gn ∨ b = gf) ∨ (∃ k, k < 8 ∧ (A' k).map (·.block) = some b) ∨ (∃ k, k < 8 ∧ (Bs k).map (·.block) = some b)
section
variable {SB : Nat → Prop} {w0 w : World} {Wg : Nat} {o bud : Int} {l : List Op8} {b8 b14 gn gf : Nat} {Bs : Nat → Option Addr} {dz : Nat → Nat} {A' : Nat → Option Addr} {cc : Nat → Nat}
theorem vr_sl0 {F : FuncId → Prop} {D : Nat → Prop} {A : Option Addr} {n c : Nat} (h : ∀ b, A.map (·.block) = some b → D b) : VR F (idr D 0) (.slice A n c) (.slice A n c) := by
 cases A with
 | none => exact .slice0 _ _
 | some a => exact .slice _ _ ⟨idr_of (h _ rfl), rfl, rfl⟩
theorem found22 (h : At22 SB w0 Wg o bud l b8 b14 gn gf Bs dz A' cc w) (hone : ∀ k, k < 8 → (fndK o bud l k).code = 1 ∨ (fndK o bud l k).code = 2) (hidx : ∀ k, k < 8 → ∀ i ∈ (fndK o bud l k).ord, 0 ≤ i ∧ i < (klen l l.length k : Int)) (hfew : ∀ k, k < 8 → (fndK o bud l k).ord.length ≤ 10000) (t : Nat → Question → Nat) :
  FoundAt (idvO (SF lcS) (D22 b8 b14 gn gf A' Bs) (fun b => b = b8) (w.tp t)) b8 b14 gf gn (fun k => (fndK o bud l k).code) (fun k => (fndK o bud l k).ord) (fun k => (fndK o bud l k).ent) A' cc (numK l) Bs dz := by
 have cell : ∀ {a : Addr} {u : Value}, D22 b8 b14 gn gf A' Bs a.block → w.cell? a = some u → VR (SF lcS) (idr (D22 b8 b14 gn gf A' Bs) 0) u u → (idvO (SF lcS) (D22 b8 b14 gn gf A' Bs) (fun b => b = b8) (w.tp t)).cell? a = some u := fun hd hc hv => idv_cell (w := w.tp t) hd hc hv
 have dgf : D22 b8 b14 gn gf A' Bs gf := .inr (.inl (by simp))
 have dgn : D22 b8 b14 gn gf A' Bs gn := .inr (.inl (by simp))
 have d14 : D22 b8 b14 gn gf A' Bs b14 := .inr (.inl (by simp))
 have d8 : D22 b8 b14 gn gf A' Bs b8 := .inr (.inl (by simp))
 refine ⟨cell d14 (by rw [h.h14.cell]; rfl) (vr_sl0 fun b hb => by cases hb; exact dgf), fun k hk => ?_, fun k hk => ?_, fun k hk => ?_, fun k hk => ?_, fun k hk => ?_, fun k hk => ?_, Ne.symm h.n8.1, Ne.symm h.n8.2.2, Ne.symm h.n8.2.1, ?_, hone, fun k hk i hi => ?_, hfew⟩
 ·rw [show 0 + k * 3 = 3 * k by omega]
  exact cell dgf (h.cells k hk).1 (.int _ _)
 ·rw [show 0 + k * 3 + 1 = 3 * k + 1 by omega]
  exact cell dgf (h.cells k hk).2.1 (vr_sl0 fun b hb => .inr (.inr (.inl ⟨k, hk, hb⟩)))
 ·rw [show 0 + k * 3 + 2 = 3 * k + 2 by omega]
  exact cell dgf (h.cells k hk).2.2 (.int _ _)
 ·refine cell dgn ?_ (vr_sl0 fun b hb => .inr (.inr (.inr ⟨k, hk, hb⟩)))
  rw [h.hn.cell, numK_len]
  exact slC_get hk
 ·obtain ⟨h1, h2, h3, h4⟩ := h.ord k hk
  refine ⟨_, _, rfl, h1, h2, by simp [i64s], fun hpos => ?_⟩
  obtain ⟨b, hb, hc⟩ := h4 hpos
  obtain ⟨⟨_, _, _, hne⟩, _, _⟩ := h3 _ hb
  refine ⟨b, 0, hb, hne, fun j u hj => ?_⟩
  obtain ⟨x, hx, rfl⟩ : ∃ x, (fndK o bud l k).ord[j]? = some x ∧ Value.int .i64 x = u := by
   unfold i64s at hj
   rw [List.getElem?_map] at hj
   exact Option.map_eq_some_iff.1 hj
  rw [Nat.zero_add]
  exact cell (.inr (.inr (.inl ⟨k, hk, by rw [hb]; rfl⟩))) (hc j x hx) (.int _ _)
 ·have hr := (RowR.self (h.nums k hk))
  obtain ⟨h0, hn, hcc, hh⟩ := hr
  have hrd := (h.nums k hk).rd
  obtain ⟨A1, c1, e1, g1, g2, g3, g4⟩ := hrd
  injection e1 with e1 e2 e3
  subst e1; subst e3
  rw [numK_len]
  refine ⟨_, _, rfl, g1, g2, g3, fun hpos => ?_⟩
  obtain ⟨b, o', hb, hd, hc⟩ := g4 hpos
  obtain ⟨⟨_, _, _, hne⟩, _, _⟩ := (h.nums k hk).blk hb
  refine ⟨b, o', hb, hne, fun j u hj => cell (.inr (.inr (.inr ⟨k, hk, hd⟩))) (hc j u hj) ?_⟩
  exact (by
   obtain ⟨i, _, rfl⟩ := List.mem_map.1 (List.mem_of_getElem? hj)
   exact .int _ _)
 ·refine idv_blk (w := w.tp t) d8 rfl h.h8 fun u hu => ?_
  simp only [zV, List.mem_toArray, List.mem_cons, List.not_mem_nil, or_false] at hu
  rcases hu with rfl | rfl | rfl
  ·exact .int _ _
  ·exact .int _ _
  ·exact .slice0 _ _
 ·rw [numK_len]
  exact hidx k hk i hi
end
def Out7 (o bud : Int) (l : List Op8) (Q : Nat → Prop) (u : Value) (w : World) : Prop :=
 (∃ k : Nat, k < 8 ∧ (fndK o bud l k).code = 2 ∧ (∀ j, j < k → (fndK o bud l j).code = 1) ∧ u = .tuple #[.agg #[.int .i64 2, .int .i64 (k : Int), .slice none 0 0], .nilIface]) ∨
 ((∀ k, k < 8 → (fndK o bud l k).code = 1) ∧ ∃ (g c : Nat) (cur : Array Value) (e : TypeId) (Cs : Nat → Option Addr) (es : Nat → Nat), u = .tuple #[.agg #[.int .i64 1, .int .i64 (-1), .slice (some ⟨g, 0, none⟩) 8 c], .nilIface] ∧ 8 ≤ c ∧ c ≤ 9223372036854775807 ∧ Q g ∧ w.heap[g]? = some (.cells cur e (0, 0)) ∧
  ∀ k, k < 8 → cur[k]? = some (.slice (Cs k) (fndK o bud l k).ord.length (es k)) ∧ RowR Q w 3 1 (Cs k) (fndK o bud l k).ord.length (es k) (i64s (outF (fun k => (fndK o bud l k).ord) (numK l) k)))
def QB (w0 : World) (Wg : Nat) (w : World) (b : Nat) : Prop := w0.heap.size ≤ b ∧ b < w.heap.size ∧ b ≠ Wg
def StopE (SB : Nat → Prop) (w0 : World) (Wg : Nat) (o bud : Int) (l : List Op8) (c0 : Frame) (cs0 : List Frame) (_ : Nat → Prop) (g : Goroutine) (w : World) : Prop :=
 ∃ u, g = G (c0.finish u) cs0 ∧ Kept SB w0 w ∧ Wg < w.heap.size ∧ Out7 o bud l (QB w0 Wg w) u w
theorem i64s_lit (l : List Int) : ∀ x ∈ i64s l, LitV x := fun x hx => by
 obtain ⟨i, _, rfl⟩ := List.mem_map.1 hx
 exact .int _ _
theorem outRow_get {ord : Nat → List Int} {Cs : Nat → Option Addr} {es : Nat → Nat} {n k : Nat} (hk : k < n) : (outRow ord Cs es n)[k]? = some (.slice (Cs k) (ord k).length (es k)) := by simp [outRow, hk]
section
variable {SB : Nat → Prop} {w0 w : World} {Wg : Nat} {o bud : Int} {l : List Op8} {b8 b14 gn gf : Nat} {Bs : Nat → Option Addr} {dz : Nat → Nat} {A' : Nat → Option Addr} {cc : Nat → Nat}
theorem out7_of {F : FuncId → Prop} {π : Ren} {R Q : Nat → Prop} {u u' : Value} {v v0 w1 : World} (hW : WR F π R v w1) (hu : VR F π u u') (hown : ∀ k, k = b8 ∨ v0.heap.size ≤ k → ∀ k', π.to k = some k' → π.own k ∧ Q k')
  (hK : Suf7 b8 (fun k => (fndK o bud l k).code) (fun k => (fndK o bud l k).ord) (numK l) v0 (.returned u) v) : Out7 o bud l Q u' w1 := by
 rcases hK with ⟨k, hk, h2, h1, e, _⟩ | ⟨h1, A, c, Cs, es, e, hI⟩
 ·injection e with e
  subst e
  obtain ⟨y0, y1, rfl, h0, h3⟩ := vr_tuple2 hu
  obtain ⟨z0, z1, z2, rfl, g0, g1, g2⟩ := vr_agg3 h0
  cases g0; cases g1; cases g2; cases h3
  exact .inl ⟨k, hk, h2, h1, rfl⟩
 ·injection e with e
  subst e
  obtain ⟨y0, y1, rfl, h0, h3⟩ := vr_tuple2 hu
  obtain ⟨z0, z1, z2, rfl, g0, g1, g2⟩ := vr_agg3 h0
  cases g0; cases g1; cases h3
  have hr : v.ownsRow 0 24 1 (.slice A 8 c) 8 (outRow (fun k => (fndK o bud l k).ord) Cs es 8) := (hI.ok _ (List.mem_cons_self ..)).1
  have hm := (hI.ok (Many 8 (outE (fun k => (fndK o bud l k).ord) (numK l) Cs es)) (by simp)).1.1
  obtain ⟨hlen, ⟨_, h8⟩ | ⟨g, cap, cur, e1, hb, hcur, hn, hcap, hsz, htk⟩⟩ := hr
  ·omega
  ·injection e1 with e1 e2 e3
   subst e1
   subst e3
   obtain ⟨g', rfl, hg⟩ := vr_slice g2
   obtain ⟨ho, hq⟩ := hown g (hI.own _ (List.mem_cons_self ..) g rfl) g' hg
   obtain ⟨cur', q3, q4⟩ := own_blk hW hg ho hcur
   have e63 : maxLen ≤ 9223372036854775807 := by decide
   have key : ∀ k, ∃ A', k < 8 → cur'[k]? = some (.slice A' (fndK o bud l k).ord.length (es k)) ∧ RowR Q w1 3 1 A' (fndK o bud l k).ord.length (es k) (i64s (outF (fun k => (fndK o bud l k).ord) (numK l) k)) := by
    intro k
    by_cases hk : k < 8
    ·have hci : cur[k]? = some (.slice (Cs k) (fndK o bud l k).ord.length (es k)) := by
      have e5 : (cur.toList.take (8 * 1))[k]? = (outRow (fun k => (fndK o bud l k).ord) Cs es 8)[k]? := by rw [htk]
      rw [List.getElem?_take_of_lt (by omega), Array.getElem?_toList] at e5
      rw [e5]
      exact outRow_get hk
     obtain ⟨y, hy, hvr⟩ := q4.get hci
     obtain ⟨A', rfl, hrow⟩ := new_rowO hW (i64s_lit _) (fun q q' hq hp => (hown q (hI.own (Many 8 (outE (fun k => (fndK o bud l k).ord) (numK l) Cs es)) (by simp) q ⟨k, hk, hq⟩) q' hp).1) (hm k hk).1 hvr
     exact ⟨A', fun _ => ⟨hy, hrow.keep fun b ⟨q, h1, h2, h3⟩ _ => ⟨(hown q (hI.own (Many 8 (outE (fun k => (fndK o bud l k).ord) (numK l) Cs es)) (by simp) q ⟨k, hk, h1⟩) b h2).2, rfl⟩⟩⟩
    ·exact ⟨none, fun hh => absurd hh hk⟩
   exact .inr ⟨h1, g', c, cur', _, fun k => Classical.choose (key k), es, rfl, hn, by omega, hq, q3, fun k hk => Classical.choose_spec (key k) hk⟩
end
theorem s22_ok : lcS.item Tryd.prog (.code s22) = true := by
 unfold s22 s8 body7
 rw [Tryd.f7]
 dsimp only [Option.getD_some]
 kernel_rfl
section
variable {SB : Nat → Prop} {w0 w : World} {Wg : Nat} {o bud : Int} {l : List Op8} {b8 b14 gn gf : Nat} {Bs : Nat → Option Addr} {dz : Nat → Nat} {A' : Nat → Option Addr} {cc : Nat → Nat} {c0 : Frame} {cs0 : List Frame} {T : Array Value}
theorem own_suf7 (hT : T7 b8 gn b14 T) (h : At22 SB w0 Wg o bud l b8 b14 gn gf Bs dz A' cc w) (hgl : ∀ g, g < 4 → (∃ cs e f, w.heap[g]? = some (.cells cs e f)) ∧ g < w0.heap.size ∧ ¬ SB g) (hgsz : Tryd.prog.globals.size ≤ w.heap.size) (hSB : ∀ b, SB b → b < w0.heap.size)
  (hone : ∀ k, k < 8 → (fndK o bud l k).code = 1 ∨ (fndK o bud l k).code = 2) (hidx : ∀ k, k < 8 → ∀ i ∈ (fndK o bud l k).ord, 0 ≤ i ∧ i < (klen l l.length k : Int)) (hfew : ∀ k, k < 8 → (fndK o bud l k).ord.length ≤ 10000) :
  Own Tryd.prog true (RK (fun b => SB b ∨ b = Wg) w) (fun _ => True) (fun _ => False) (StopE SB w0 Wg o bud l c0 cs0) (fun b => b = b8) (G7 T (c0 :: cs0)) w := by
 unfold G7
 have hd : (ops21[0]?).bind (·.dst) = some 78 := by simp only [ops10, ops11, ops12, ops13, ops14, ops15m, ops16, ops17, ops18, ops19, ops20, ops21, lp10, s15, lp15, s20, s22, s10, s8, body7, Tryd.f7, Option.getD_some]; rfl
 rw [hd]
 refine Own.move rfl (fun w1 => stepG_region_end) fun w1 hr => Own.rely ?_ hr
 have hf := (fit_of hT.size).put (d := 78) (by omega) (.tuple #[])
 have ha := act_eq hf
 have hTs : ((⟨T, []⟩ : Act).put (some 78) (.tuple #[])).tmps.size = 135 := hf.size
 have get : ∀ i v, i < 135 → i ≠ 78 → T[i]? = some v → ((⟨T, []⟩ : Act).put (some 78) (.tuple #[])).tmps[i]? = some v := fun i v hi hn hv => by
  have e1 := hf.get i
  have e2 : upd (fun i => T.getD i undef) 78 (.tuple #[]) i = v := by
   unfold upd
   have hb : Nat.beq i 78 = false := by
    cases hh : Nat.beq i 78 with
    | false => rfl
    | true => exact absurd (Nat.eq_of_beq_eq_true hh) hn
   rw [hb]
   show T.getD i undef = v
   rw [Array.getD_eq_getD_getElem?, hv]
   rfl
  rw [e2, Array.getD_eq_getD_getElem?] at e1
  have e3 : i < ((⟨T, []⟩ : Act).put (some 78) (.tuple #[])).tmps.size := by rw [hTs]; exact hi
  rw [Array.getElem?_eq_getElem e3] at e1 ⊢
  exact congrArg some e1
 have t8 := get 8 _ (by omega) (by omega) hT.t8
 have t13 := get 13 _ (by omega) (by omega) hT.t13
 have t14 := get 14 _ (by omega) (by omega) hT.t14
 rw [ha]
 generalize ((⟨T, []⟩ : Act).put (some 78) (.tuple #[])).tmps = T2 at hTs t8 t13 t14 ⊢
 clear get ha hf
 have hm := fun b hb => h.mem b hb
 have e22 : ∀ b, D22 b8 b14 gn gf A' Bs b → b ≠ b8 → RK (fun b => SB b ∨ b = Wg) w b := by
  intro b hb hn
  rcases hb with hb | hb | ⟨k, hk, hb⟩ | ⟨k, hk, hb⟩
  ·obtain ⟨⟨cs, e, f, hc⟩, h2, h3⟩ := hgl b hb
   refine ⟨(Array.getElem?_eq_some_iff.1 hc).1, fun h4 => h4.elim h3 fun e => ?_⟩
   have := h.wg.1
   omega
  ·obtain ⟨h1, h2, h3⟩ := hm b hb
   exact ⟨h2, fun h4 => h4.elim (fun hs => by have := hSB b hs; omega) h3⟩
  ·obtain ⟨a, ha, rfl⟩ := Option.map_eq_some_iff.1 hb
   obtain ⟨⟨h1, h2, h3, h4⟩, _⟩ := (h.ord k hk).2.2.1 a ha
   exact ⟨h2, fun h5 => h5.elim (fun hs => by have := hSB _ hs; omega) h3⟩
  ·obtain ⟨a, ha, rfl⟩ := Option.map_eq_some_iff.1 hb
   obtain ⟨⟨h1, h2, h3, h4⟩, _⟩ := (h.nums k hk).blk ha
   exact ⟨h2, fun h5 => h5.elim (fun hs => by have := hSB _ hs; omega) h3⟩
 have hC : ClosedO (RK (fun b => SB b ∨ b = Wg) w) (fun b => b = b8) w (D22 b8 b14 gn gf A' Bs) (fun b => b = b8) := by
  refine ⟨e22, fun k _ hk => hk, fun b hb => ?_⟩
  rcases hb with hb | hb | ⟨k, hk, hb⟩ | ⟨k, hk, hb⟩
  ·exact (hgl b hb).1
  ·rcases hb with rfl | rfl | rfl | rfl
   ·exact ⟨_, _, _, h.h8⟩
   ·exact ⟨_, _, _, h.h14⟩
   ·exact ⟨_, _, _, h.hn⟩
   ·obtain ⟨cs, e, hc⟩ := h.hf; exact ⟨_, _, _, hc⟩
  ·obtain ⟨a, ha, rfl⟩ := Option.map_eq_some_iff.1 hb
   exact ((h.ord k hk).2.2.1 a ha).2.2
  ·obtain ⟨a, ha, rfl⟩ := Option.map_eq_some_iff.1 hb
   obtain ⟨_, _, cs, f, hc⟩ := (h.nums k hk).blk ha
   exact ⟨_, _, _, hc⟩
 have hb8 := hm b8 (.inl rfl)
 have hlow : ∀ M' : Nat → Prop, (∀ k, M' k → k = b8 ∨ w.heap.size ≤ k) → ∀ k, M' k → w0.heap.size ≤ k := fun M' hM k hk => (hM k hk).elim (fun e => by rw [e]; exact hb8.1) fun e => Nat.le_trans h.kept.size e
 have d8 : D22 b8 b14 gn gf A' Bs b8 := .inr (.inl (by simp))
 have dgn : D22 b8 b14 gn gf A' Bs gn := .inr (.inl (by simp))
 have d14 : D22 b8 b14 gn gf A' Bs b14 := .inr (.inl (by simp))
 have vp : ∀ b, D22 b8 b14 gn gf A' Bs b → VR (SF lcS) (idr (D22 b8 b14 gn gf A' Bs) 0) (.pointer (some ⟨b, 0, none⟩)) (.pointer (some ⟨b, 0, none⟩)) := fun b hb => .ptr ⟨idr_of hb, rfl, rfl⟩
 have hn : Tryd.f7.ntmps = 135 := by kernel_rfl
 have hg : Good Tryd.prog (fun u v => ∃ t, Suf7 b8 (fun k => (fndK o bud l k).code) (fun k => (fndK o bud l k).ord) (numK l) (idvO (SF lcS) (D22 b8 b14 gn gf A' Bs) (fun b => b = b8) (w.tp t)) (.returned u) v) ⟨fm 7 (vwT (SF lcS) (D22 b8 b14 gn gf A' Bs) T2) [.code s22], [], idvO (SF lcS) (D22 b8 b14 gn gf A' Bs) (fun b => b = b8) w⟩ := by
  refine good_rest (R := fun en v => ∃ t, Suf7 b8 (fun k => (fndK o bud l k).code) (fun k => (fndK o bud l k).ord) (numK l) (idvO (SF lcS) (D22 b8 b14 gn gf A' Bs) (fun b => b = b8) (w.tp t)) en v) Tryd.func7 (by rw [hn, ← hTs]; simp [vwT]) fun t => ?_
  refine W_mono (suf7_any (found22 h hone hidx hfew t) ⟨vwT_get t8 (vp _ d8), vwT_get t13 (vr_sl0 fun b hb => by cases hb; exact dgn), vwT_get t14 (vp _ d14), trivial⟩) fun e ρ v hh => ?_
  exact retQ_imp hh fun en v' hs => ⟨t, hs⟩
 refine own_restO (K := fun u v => ∃ t, Suf7 b8 (fun k => (fndK o bud l k).code) (fun k => (fndK o bud l k).ord) (numK l) (idvO (SF lcS) (D22 b8 b14 gn gf A' Bs) (fun b => b = b8) (w.tp t)) (.returned u) v) (D := D22 b8 b14 gn gf A' Bs) (O := fun b => b = b8) (fun w1 => Kept SB w0 w1 ∧ w.heap.size ≤ w1.heap.size) (fun M w1 w2 r hh => ⟨?_, Nat.le_trans hh.2 r.size⟩) (fun M' w1 w2 hM s hh => ⟨hh.1.spares (hlow M' hM) s, Nat.le_trans hh.2 s.size⟩) ⟨h.kept, Nat.le_refl _⟩
  lc_fine Tryd.func7 (fun it hit => by rw [List.mem_singleton.1 hit]; exact s22_ok) hgsz (fun g hg => .inl (by simpa [lcS] using hg)) hC (vwT_ar _ _ T2) hg ?_
 ·refine ⟨Nat.le_trans hh.1.size r.size, fun b h1 h2 => ?_, r.tape.trans hh.1.tape, r.os.trans hh.1.os, r.out.trans hh.1.out⟩
  have h3 := h.wg.1
  have h4 := h.kept.size
  exact (r.mine b (.inr ⟨by omega, fun h5 => h5.elim h2 (by omega)⟩)).trans (hh.1.blk b h1 h2)
 ·rintro π u u' v w1 M' hle hu ⟨t, hK⟩ hW hown hM0 hMb ⟨hJ, hJs⟩
  refine .stop fun w2 r2 => ?_
  have hW2 : WR (SF lcS) π (RK (fun b => SB b ∨ b = Wg) w) v w2 := hW.rely hown r2
  have hk2 : Kept SB w0 w2 := by
   refine ⟨Nat.le_trans hJ.size r2.size, fun b h1 h2 => ?_, r2.tape.trans hJ.tape, r2.os.trans hJ.os, r2.out.trans hJ.out⟩
   have h3 := h.wg.1
   have h4 := h.kept.size
   exact (r2.mine b (.inr ⟨by omega, fun h5 => h5.elim h2 (by omega)⟩)).trans (hJ.blk b h1 h2)
  have hs2 : w.heap.size ≤ w2.heap.size := Nat.le_trans hJs r2.size
  refine ⟨u', rfl, hk2, Nat.lt_of_lt_of_le h.wg.2 hs2, out7_of hW2 hu (fun k hk k' hp => ?_) hK⟩
  have hk' : k' < w2.heap.size := (hW2.dom k k' hp).2
  have ho : π.own k := by
   rcases hk with rfl | hk
   ·exact hle.own _ ⟨d8, rfl⟩
   ·have hk : w.heap.size ≤ k := by
     have e : (idvO (SF lcS) (D22 b8 b14 gn gf A' Bs) (fun b => b = b8) (w.tp t)).heap.size = w.heap.size := idv_size (w := w.tp t)
     omega
    exact (ren_new hle hW2 (fun b hb => hb.1) hk hp).2.1
  refine ⟨ho, ?_⟩
  have hmk := hown k k' hp ho
  rcases hMb k' hmk with hb | hb
  ·have hb : k' = b8 := hb
   rw [hb]
   exact ⟨hb8.1, by omega, hb8.2.2⟩
  ·have h5 := h.wg.2
   exact ⟨Nat.le_trans h.kept.size hb, hk', by omega⟩
end
section
variable {SB : Nat → Prop} {w : World} {o bud : Int} {l : List Op8} {A : Option Addr} {n c : Nat} {c0 : Frame} {cs0 : List Frame} {z wkn : Nat}
def Back7 (SB : Nat → Prop) (w0 : World) (o bud : Int) (l : List Op8) (c0 : Frame) (cs0 : List Frame) (SB' : Nat → Prop) (g : Goroutine) (w : World) : Prop :=
 ∃ Wg u, SB' = (fun b => SB b ∨ b = Wg) ∧ w0.heap.size ≤ Wg ∧ Wg < w.heap.size ∧ g = G (c0.finish u) cs0 ∧ Kept SB w0 w ∧ Out7 o bud l (QB w0 Wg w) u w
def Back7e (SB : Nat → Prop) (w0 : World) (c0 : Frame) (cs0 : List Frame) (SB' : Nat → Prop) (g : Goroutine) (w : World) : Prop :=
 SB' = SB ∧ ∃ x, IsErr x ∧ g = G (c0.finish (.tuple #[.agg zV.toArray, x])) cs0 ∧ Kept SB w0 w
theorem stopA_run {wk : Int} {M : Nat → Prop} {g : Goroutine} {w0 : World} (h : StopA SB w0 o bud wk l c0 cs0 M g w) : g.status = .running := by
 rcases h with ⟨_, x, _, rfl, _⟩ | ⟨_, T, b4, b6, b8, b12, b14, gp, gn, gf, As, cz, Bs, dz, Ch, bk, rfl, _⟩
 ·rfl
 ·rfl
theorem check7_ok (C : Ctx7 SB w A n c l) (hl : l.length ≤ 10000) (hb0 : 0 ≤ bud) (hb1 : bud ≤ 1000000) (hw0 : 1 ≤ wkn) (hw1 : wkn ≤ 64) (hz0 : 0 < z) (hz1 : z ≤ 1000) (hok : OkLin o l 0)
  (hone : ∀ k, k < 8 → (fndK o bud l k).code = 1 ∨ (fndK o bud l k).code = 2) (hidx : ∀ k, k < 8 → ∀ i ∈ (fndK o bud l k).ord, 0 ≤ i ∧ i < (klen l l.length k : Int)) (hfew : ∀ k, k < 8 → (fndK o bud l k).ord.length ≤ 10000) :
  MBX Tryd.prog SB z (z + wkn) (In7 #[.int .i64 o, .slice A n c, .int .i64 bud, .int .i64 (wkn : Int)] (c0 :: cs0)) w (Back7 SB w o bud l c0 cs0) := by
 have hS : ∀ k, SB k → k < w.heap.size := fun k hk => (C.sb k hk).1
 refine MBX.bind (MB.x (MB.own (fun _ _ h => h) (own_in7 C hl hb0 hb1 (wk := (wkn : Int)) (by omega) (by omega)) (fun M a w' h => stopA_run h) (fun k hk => hk.elim) (fun k hk => hk) hS)) ?_
 rintro SB1 g1 w1 ⟨rfl, hs1, M1, hM1, h1⟩
 rcases h1 with ⟨hno, _⟩ | ⟨_, h9⟩
 ·exact absurd hok hno
 refine MBX.bind (phase8 C h9 hM1 hz0 hz1 hw0 hw1) ?_
 rintro SB2 g2 w2 ⟨T, Wg, b8, b14, gn, gf, Bs, dz, A', cc, rfl, hT, rfl, h22⟩
 have C2 : Ctx7 (fun b => SB1 b ∨ b = Wg) w2 A n c l := C.kept h22.kept fun b hb => hb.imp id fun e => by rw [e]; exact h22.wg
 refine MBX.mono (MB.x (MB.own (fun _ _ h => h) (own_suf7 hT h22 (fun g hg => ⟨C2.gl g hg, C.lt (.inr hg)⟩) C2.gsz hS hone hidx hfew) (fun M a w' h => ?_) (fun k hk => ?_) (fun k hk => hk) (fun k hk => (C2.sb k hk).1))) ?_
 ·obtain ⟨u, rfl, _⟩ := h
  rfl
 ·have hk : k = b8 := hk
  subst hk
  obtain ⟨q1, q2, q3⟩ := h22.mem k (.inl rfl)
  exact ⟨q2, fun h => h.elim (fun h => by have := hS k h; omega) q3⟩
 ·rintro SB3 g3 w3 ⟨rfl, hs3, M3, hM3, u, rfl, hk3, hwg, hout⟩
  exact ⟨Wg, u, rfl, h22.wg.1, hwg, rfl, hk3, hout⟩
theorem check7_bad (C : Ctx7 SB w A n c l) (hl : l.length ≤ 10000) (hb0 : 0 ≤ bud) (hb1 : bud ≤ 1000000) (hw0 : 1 ≤ wkn) (hw1 : wkn ≤ 64) (hno : ¬ OkLin o l 0) :
  MBX Tryd.prog SB z z (In7 #[.int .i64 o, .slice A n c, .int .i64 bud, .int .i64 (wkn : Int)] (c0 :: cs0)) w (Back7e SB w c0 cs0) := by
 have hS : ∀ k, SB k → k < w.heap.size := fun k hk => (C.sb k hk).1
 refine MBX.mono (MB.x (MB.own (fun _ _ h => h) (own_in7 C hl hb0 hb1 (wk := (wkn : Int)) (by omega) (by omega)) (fun M a w' h => stopA_run h) (fun k hk => hk.elim) (fun k hk => hk) hS)) ?_
 rintro SB1 g1 w1 ⟨rfl, hs1, M1, hM1, h1⟩
 rcases h1 with ⟨_, x, hx, rfl, hk, _⟩ | ⟨hok, _⟩
 ·exact ⟨rfl, x, hx, rfl, hk⟩
 ·exact absurd hok hno
end
end Go.Proofs.YtkkmokodaejheaaDoor
namespace Go.Proofs.YtkkmokodaejheaaDoor
open Go Go.RowKit
set_option linter.unusedVariables false
set_option linter.unusedSimpArgs false
set_option linter.unusedSectionVars false
theorem oAt_takeK {l : List Op8} {k i : Nat} (h : i < k) : oAt (l.take k) i = oAt l i := by
 unfold oAt
 rw [List.getD_eq_getElem?_getD, List.getD_eq_getElem?_getD, List.getElem?_take_of_lt h]
theorem oAt_map {l : List Op8} {I : List Nat} {j : Nat} (h : j < I.length) : oAt (I.map (oAt l)) j = oAt l I[j] := by
 show (I.map (oAt l)).getD j _ = _
 rw [List.getD_eq_getElem?_getD, List.getElem?_map, List.getElem?_eq_getElem h]
 rfl
theorem okOps_inc {l : List Op8} (h : OkOps l) : ∀ j i, i < j → j < l.length → (oAt l i).call < (oAt l j).call := by
 intro j
 induction j with
 | zero => intro i hi; omega
 | succ j ih =>
  intro i hi hj
  have h1 : (oAt l j).call < (oAt l (j + 1)).call := by
   obtain ⟨_, _, ⟨_, hk, _, _⟩, _, _⟩ := h.2 (j + 1) hj
   have hlen : (l.take (j + 1)).length = j + 1 := by rw [List.length_take]; omega
   rw [hlen, show j + 1 - 1 = j by omega, oAt_takeK (by omega)] at hk
   exact Int.lt_of_not_ge fun hh => hk ⟨by omega, hh⟩
  rcases Nat.lt_or_ge i j with h2 | h2
  ·exact Int.lt_trans (ih i h2 (by omega)) h1
  ·rw [show i = j by omega]; exact h1
theorem okOps_sub {l : List Op8} {I : List Nat} (h : OkOps l) (hI : I.Pairwise (· < ·)) (hl : ∀ i ∈ I, i < l.length) (hlen : I.length ≤ l.length) : OkOps (I.map (oAt l)) := by
 refine ⟨by rw [List.length_map]; exact Nat.le_trans hlen h.1, fun j hj => ?_⟩
 rw [List.length_map] at hj
 have hjl := hl I[j] (List.getElem_mem hj)
 obtain ⟨h1, h2, ⟨h3, h4, h5, h6⟩, h7, h8⟩ := h.2 I[j] hjl
 rw [oAt_map hj]
 have htl : ((I.map (oAt l)).take j).length = j := by rw [List.length_take, List.length_map]; omega
 have hlt : (l.take I[j]).length = I[j] := by rw [List.length_take]; omega
 have key : ∀ q (hq : q < j), oAt ((I.map (oAt l)).take j) q = oAt l (I[q]'(by omega)) ∧ I[q]'(by omega) < I[j] := fun q hq =>
  ⟨by rw [oAt_takeK hq, oAt_map (by omega)], List.pairwise_iff_getElem.1 hI q j (by omega) hj hq⟩
 refine ⟨h1, h2, ⟨h3, fun hh => ?_, h5, h6⟩, fun q hq => ?_, fun q hq hp => ?_⟩
 ·rw [htl] at hh
  obtain ⟨q1, q2⟩ := key (j - 1) (by omega)
  rw [q1] at hh
  have := okOps_inc h I[j] _ q2 hjl
  omega
 ·rw [htl] at hq
  obtain ⟨q1, q2⟩ := key q hq
  rw [q1, ← oAt_takeK (l := l) q2]
  exact h7 _ (by rw [hlt]; exact q2)
 ·rw [htl] at hq
  obtain ⟨q1, q2⟩ := key q hq
  rw [q1] at hp ⊢
  rw [← oAt_takeK (l := l) q2] at hp ⊢
  exact h8 _ (by rw [hlt]; exact q2) hp
theorem kix_mem {l : List Op8} {n k i : Nat} (h : i ∈ kix l n k) : i < n ∧ (oAt l i).key = (k : Int) := by
 unfold kix at h
 obtain ⟨h1, h2⟩ := List.mem_filter.1 h
 exact ⟨List.mem_range.1 h1, by simpa using h2⟩
theorem kix_inc (l : List Op8) (n k : Nat) : (kix l n k).Pairwise (· < ·) := List.Pairwise.filter _ List.pairwise_lt_range
theorem okLin_K {o : Int} {l : List Op8} (h : OkLin o l 0) (k : Nat) {bud : Int} (hb0 : 0 ≤ bud) (hb1 : bud ≤ 1000000) : OkLin o (opsK l k) bud := by
 obtain ⟨h1, h2, _, _, h5, h6⟩ := h
 refine ⟨h1, h2, hb0, hb1, okOps_sub h5 (kix_inc l _ k) (fun i hi => (kix_mem hi).1) (kix_le l _ k), fun j hj => ?_⟩
 unfold opsK at hj ⊢
 rw [List.length_map] at hj
 rw [oAt_map hj]
 exact h6 _ (kix_mem (List.getElem_mem hj)).1
section
variable {o : Int} {l : List Op8} (hok : OkLin o l 0) (hl : l.length ≤ 8) (k : Nat)
include hok hl
theorem fndK_ok : fndK o 1000000 l k = ⟨(verdF o (opsK l k) befB 1000000).1, ordF (verdF o (opsK l k) befB 1000000), (verdF o (opsK l k) befB 1000000).2.ent.length⟩ := by
 have := okLin_K hok k (bud := 1000000) (by omega) (by omega)
 unfold fndK foundF
 exact if_pos this
theorem opsK_le : (opsK l k).length ≤ 8 := by
 rw [opsK_len]
 exact Nat.le_trans (kix_le l _ k) hl
theorem code_K : (fndK o 1000000 l k).code = 1 ∨ (fndK o 1000000 l k).code = 2 := by
 rw [fndK_ok hok hl k]
 have h3 := verd_known (o := o) (l := opsK l k) (ab := befB) (bud := 1000000) (opsK_le hok hl k) (by omega)
 have hc := enter_code (o := o) (l := opsK l k) (ab := befB) (bud := 1000000) ((opsK l k).length + 1) (startS o)
 rcases hc with hc | hc | hc
 ·exact .inl hc
 ·exact .inr hc
 ·exact absurd hc h3
theorem ord_K : ∀ i ∈ (fndK o 1000000 l k).ord, 0 ≤ i ∧ i < (klen l l.length k : Int) := by
 rw [fndK_ok hok hl k]
 show ∀ i ∈ ordF (verdF o (opsK l k) befB 1000000), _
 unfold ordF
 split
 ·next h =>
  intro i hi
  have := (verd_sound h).2.rng i hi
  rw [opsK_len] at this
  exact this
 ·intro i hi; cases hi
theorem few_K : (fndK o 1000000 l k).ord.length ≤ 10000 := by
 rw [fndK_ok hok hl k]
 show (ordF (verdF o (opsK l k) befB 1000000)).length ≤ 10000
 unfold ordF
 split
 ·have h2 : (verdF o (opsK l k) befB 1000000).2.ord.length ≤ (startS o).ord.length + ((opsK l k).length + 1) := enter_ord ((opsK l k).length + 1) (startS o)
  have h3 : (startS o).ord.length = 0 := rfl
  have := opsK_le hok hl k
  omega
 ·simp
theorem shows_K (h : (fndK o 1000000 l k).code = 1) : ShowsP o (opsK l k) (fndK o 1000000 l k).ord := by
 have hh := okLin_K hok k (bud := 1000000) (by omega) (by omega)
 rw [fndK_ok hok hl k] at h ⊢
 have h : (verdF o (opsK l k) befB 1000000).1 = 1 := h
 show ShowsP o (opsK l k) (ordF (verdF o (opsK l k) befB 1000000))
 unfold ordF
 rw [if_pos h]
 exact verd_shows (argsOk hh) h
end
end Go.Proofs.YtkkmokodaejheaaDoor
namespace Go.Proofs.YtkkmokodaejheaaDoor
open Go.RowKit
set_option linter.unusedVariables false
set_option linter.unusedSimpArgs false
noncomputable def body4 : Code := Tryd.f4.body.getD .skip
noncomputable def s3 : Code := match body4 with | .seq _ (.seq _ c) => c | _ => .skip
noncomputable def ops3 : Array Oper := match s3 with | .seq (.region _ o _) _ => o | _ => #[]
noncomputable def rest4 : Code := match s3 with | .seq _ c => c | _ => .skip
noncomputable def s7 : Code := match rest4 with | .seq _ (.seq _ c) => c | _ => .skip
structure Fa4 (w0 : World) (o : Int) (l : List Op8) (b5 gp gn : Nat) (code key : Int) (vo : Value) (As : Nat → Option Addr) (cs : Nat → Nat) (Bs : Nat → Option Addr) (ds : Nat → Nat) : Prop where
 ok : OkLin o l 0
 le : l.length ≤ 8
 cC : w0.cell? ⟨b5, 0, none⟩ = some (.int .i64 code)
 kC : w0.cell? ⟨b5, 1, none⟩ = some (.int .i64 key)
 oC : w0.cell? ⟨b5, 2, none⟩ = some vo
 pC : ∀ k, k < 8 → w0.cell? ⟨gp, k, none⟩ = some (.slice (As k) (klen l l.length k) (cs k))
 nC : ∀ k, k < 8 → w0.cell? ⟨gn, k, none⟩ = some (.slice (Bs k) (klen l l.length k) (ds k))
 part : ∀ k, k < 8 → OpsR w0 (fun _ => True) (.slice (As k) (klen l l.length k) (cs k)) (opsK l k)
 num : ∀ k, k < 8 → Rd w0 (fun _ => True) 1 (.slice (Bs k) (klen l l.length k) (ds k)) (klen l l.length k) (i64s (numK l k))
 kn : KnOk w0
structure Or4 (w0 : World) (o : Int) (l : List Op8) (g : Nat) (Cs : Nat → Option Addr) (es : Nat → Nat) : Prop where
 cell : ∀ k, k < 8 → w0.cell? ⟨g, k, none⟩ = some (.slice (Cs k) (fndK o 1000000 l k).ord.length (es k))
 row : ∀ k, k < 8 → Rd w0 (fun _ => True) 1 (.slice (Cs k) (fndK o 1000000 l k).ord.length (es k)) (fndK o 1000000 l k).ord.length (i64s (outF (fun k => (fndK o 1000000 l k).ord) (numK l) k))
 one : ∀ k, k < 8 → (fndK o 1000000 l k).code = 1
section
variable {w0 : World} {o : Int} {l : List Op8} {b5 gp gn : Nat} {code key : Int} {vo : Value} {As : Nat → Option Addr} {cs : Nat → Nat} {Bs : Nat → Option Addr} {ds : Nat → Nat} {ρ : Env}
abbrev Sl4 (o : Int) (b5 gp gn : Nat) : List (Nat × Value) := [(0, .int .i64 o), (5, .pointer (some ⟨b5, 0, none⟩)), (7, .slice (some ⟨gp, 0, none⟩) 8 8), (8, .slice (some ⟨gn, 0, none⟩) 8 8)]
set_option maxHeartbeats 2000000 in
theorem inv7_any {k : Nat} {vo : Value} (F : Fa4 w0 o l b5 gp gn 2 (k : Int) vo As cs Bs ds) (hk8 : k < 8) (h2 : (fndK o 1000000 l k).code = 2) (hH : Has ρ (Sl4 o b5 gp gn)) :
  W Tryd.prog Tryd.f4.ntmps s7 (retQ Tryd.prog Tryd.f4 (fun en _ => en = .returned (.bool true))) ρ w0 := by
 obtain ⟨σ, rfl⟩ := hH.open
 have hI := Inv.start (fun _ => False) w0
 have hokK := okLin_K F.ok k (bud := 1000000) (by omega) (by omega)
 have h2' : (verdF o (opsK l k) befB 1000000).1 = 2 := by rw [fndK_ok F.ok F.le k] at h2; exact h2
 unfold s7 rest4 s3 body4
 rw [Tryd.f4]
 dsimp only [Option.getD_some]
 refine W_seq (W_seq (W_region (V7 0 rfl (V3 (.int .i64 _) rfl (hI.oldp F.cC) (Vu rfl (WL_nil (W_cond true rfl (W_seq (W_seq (W_region (V7 1 rfl (V3 (.int .i64 _) rfl (hI.oldp F.kC) (Vo rfl ?_)))))))))))))
 refine V5 rfl (V7 1 rfl (V3 (.int .i64 _) rfl (hI.oldp F.kC) (V8 rfl (Vi rfl Tryd.underlying39 rfl (Tg rfl (Vd rfl (WL_nil (W_cond false rfl (W_skip (W_seq (W_region (V0 rfl (V8 rfl ?_)))))))))))))
 refine V7 1 rfl (V3 (.int .i64 _) rfl (hI.oldp F.kC) (Tb rfl Tryd.underlying39 rfl (V3 (.slice _ _ _) rfl (hI.oldp (F.pC k hk8)) (Va [.int .i64 _, .slice _ _ _, .int .i64 _] rfl Tryd.func6 rfl ?_))))
 refine (chk_any o (As k) (klen l l.length k) (cs k) (opsK l k) 1000000 (fun _ => True) _ ((F.part k hk8).pure hI.pu) (F.kn.pure hI.pu)).mono ?_
 rintro e w1 (⟨_, A', c', rfl, hT⟩ | ⟨h1, _⟩)
 rotate_left
 ·exact absurd hokK h1
 rw [show (1000000 : Int).toNat = 1000000 from rfl] at hT ⊢
 generalize verdF o (opsK l k) befB 1000000 = R at hT h2' ⊢
 obtain ⟨z, s'⟩ := R
 simp only at h2'
 subst h2'
 refine ⟨_, rfl, ?_⟩
 replace hI := hI.app1 hT
 refine Ta rfl (Vk rfl (Vk rfl (Vw (.agg #[.int .i64 0, .slice none 0 0, .int .i64 0]) (#[.int .i64 0, .slice none 0 0, .int .i64 0]) hI rfl ?_)))
 clear hI; rintro b9 w - - hI
 refine Vz 3 (#[_, _, _]) (.agg _) hI rfl ?_
 clear hI; intro w hI
 refine Vy rfl (WL_nil (W_seq (W_region ?_)))
 refine WL_val rfl rfl rfl (by exact rMoveN rfl rfl) ?_
 refine WL_val rfl rfl rfl (by exact rNilEq rfl Tryd.underlying28 rfl) ?_
 refine V5 rfl (V7 0 rfl (V3 (.int .i64 _) rfl (hI.c0 rfl) (Vu rfl (Vg rfl (V6 rfl (WL_nil ?_))))))
 refine W_ret ?_
 exact ret1 4 (.inr rfl) rfl rfl
end
theorem numK_inj {l : List Op8} {k i j : Nat} (hi : i < (numK l k).length) (hj : j < (numK l k).length) (h : (numK l k)[i] = (numK l k)[j]) : i = j := by
 have hp := kix_inc l l.length k
 unfold numK at hi hj h
 rw [List.length_map] at hi hj
 rw [List.getElem_map, List.getElem_map] at h
 rcases Nat.lt_trichotomy i j with h1 | h1 | h1
 ·have := List.pairwise_iff_getElem.1 hp i j hi hj h1
  omega
 ·exact h1
 ·have := List.pairwise_iff_getElem.1 hp j i hj hi h1
  omega
section
variable {w0 : World} {o : Int} {l : List Op8} {b5 gp gn : Nat} {As : Nat → Option Addr} {cs : Nat → Nat} {Bs : Nat → Option Addr} {ds : Nat → Nat} {ρ : Env} {g co : Nat} {Cs : Nat → Option Addr} {es : Nat → Nat}
set_option maxHeartbeats 8000000 in
theorem ord7_any (F : Fa4 w0 o l b5 gp gn 1 (-1) (.slice (some ⟨g, 0, none⟩) 8 co) As cs Bs ds) (O : Or4 w0 o l g Cs es) (hH : Has ρ (Sl4 o b5 gp gn)) :
  W Tryd.prog Tryd.f4.ntmps s7 (retQ Tryd.prog Tryd.f4 (fun en _ => en = .returned (.bool true))) ρ w0 := by
 obtain ⟨σ, rfl⟩ := hH.open
 have hI := Inv.start (fun _ => False) w0
 unfold s7 rest4 s3 body4
 rw [Tryd.f4]
 dsimp only [Option.getD_some]
 refine W_seq (W_seq (W_region (V7 0 rfl (V3 (.int .i64 _) rfl (hI.oldp F.cC) (Vj rfl (WL_nil (W_cond false rfl (W_skip (W_seq (W_seq (W_region (V7 2 rfl (V3 (.slice _ _ _) rfl (hI.oldp F.oC) ?_)))))))))))))
 refine Vi rfl Tryd.underlying31 rfl (V8 rfl (Vi rfl Tryd.underlying39 rfl (Tl rfl (V5 rfl (V8 rfl (Vi rfl Tryd.underlying31 rfl (V8 rfl (Vi rfl Tryd.underlying39 rfl (Tl rfl (Vd rfl (WL_nil (W_cond false rfl (W_skip ?_)))))))))))))
 refine W_seq (W_seq (W_region (V9 rfl (WL_nil (W_block ?_)))))
 refine W_loop (fun ρ w => ∃ k : Nat, k ≤ 8 ∧ Has ρ ((11, .int .i64 (k : Int)) :: Sl4 o b5 gp gn) ∧ Inv (fun _ => False) w0 w []) (fun ρ _ => 8 - cnt (ρ 11)) ⟨0, by omega, ⟨rfl, rfl, rfl, rfl, rfl, trivial⟩, hI⟩ ?_
 clear hI
 rintro ρ w ⟨k, hk, hH, hI⟩
 obtain ⟨σ, rfl⟩ := hH.open
 by_cases hk8 : k < 8
 rotate_left
 ·obtain rfl : k = 8 := by omega
  refine W_seq (W_seq (W_region (V0 rfl (V8 rfl (Vi rfl Tryd.underlying39 rfl (Vo rfl (WL_nil (W_cond false rfl ?_))))))))
  refine W_exit ?_
  refine W_seq (W_region (V6 rfl (WL_nil ?_)))
  refine W_ret ?_
  exact ret1 4 (.inr rfl) rfl rfl
 have oC := O.cell k hk8
 have hord := O.row k hk8
 have hone := O.one k hk8
 have hsh := shows_K F.ok F.le k hone
 have hidx := ord_K F.ok F.le k
 have hfew := few_K F.ok F.le k
 have hokK := okLin_K F.ok k (bud := 0) (by omega) (by omega)
 obtain ⟨Ao, co2, ho1, ho2, ho3, ho4, hocell⟩ := hord
 obtain ⟨An, cn2, hn1, hn2, hn3, hn4, hncell⟩ := F.num k hk8
 have nC := F.nC k hk8
 have pC := F.pC k hk8
 injection ho1 with e1 e2 e3
 injection hn1 with e4 e5 e6
 rw [← e1] at hocell
 rw [← e4] at hncell
 clear e1 e2 e3 e4 e5 e6 ho4 hn4
 have hpart := F.part k hk8
 have hnl := numK_len l k
 have hof : ∀ _ : Nat, outF (fun k => (fndK o 1000000 l k).ord) (numK l) k = ((fndK o 1000000 l k).ord.map fun i => (numK l k).getD i.toNat 0) := fun _ => rfl
 rw [hof 0] at hocell
 generalize hod : (fndK o 1000000 l k).ord = od at *
 generalize klen l l.length k = m at *
 refine W_seq (W_seq (W_region (V0 rfl (V8 rfl (Vi rfl Tryd.underlying39 rfl (Vt rfl (WL_nil (W_cond true rfl (W_skip (W_seq (W_block (W_seq (W_region ?_)))))))))))))
 refine Vf rfl (WL_nil (W_seq (W_seq (W_region (V9 rfl (WL_nil ?_))))))
 replace hI := hI.fresh (Pure.refl _) (Row.nil _ 0 3 1) (fun k hk => by simp [Row] at hk)
 refine W_block ?_
 refine W_loop (fun ρ w => ∃ (i : Nat) (A5 : Option Addr) (c5 : Nat), i ≤ od.length ∧ Has ρ ((13, .int .i64 (i : Int)) :: (12, .slice A5 i c5) :: (11, .int .i64 (k : Int)) :: Sl4 o b5 gp gn) ∧ Inv (fun _ => False) w0 w [Row 0 3 1 A5 i c5 (i64s (od.take i))]) (fun ρ _ => od.length - cnt (ρ 13)) ⟨0, _, _, by omega, ⟨rfl, rfl, rfl, rfl, rfl, rfl, rfl, trivial⟩, hI⟩ ?_
 clear hI
 rintro ρ w ⟨i, A5, c5, hi, hH, hI⟩
 obtain ⟨σ, rfl⟩ := hH.open
 by_cases hil : i < od.length
 rotate_left
 ·obtain rfl : i = od.length := by omega
  rw [List.take_of_length_le (Nat.le_refl _)] at hI
  refine W_seq (W_seq (W_region (V0 rfl (V7 2 rfl (V3 (.slice _ _ _) rfl (hI.oldp F.oC) (V0 rfl (Tb rfl Tryd.underlying31 rfl (V3 (.slice _ _ _) rfl (hI.oldp oC) (Vi rfl Tryd.underlying24 rfl (Vo rfl (WL_nil (W_cond false rfl ?_))))))))))))
  refine W_exit ?_
  have hk0 := F.kn
  refine W_seq (W_region (V0 rfl (V8 rfl (V0 rfl (Tb rfl Tryd.underlying39 rfl (V3 (.slice _ _ _) rfl (hI.oldp pC) (V8 rfl (Va [.int .i64 _, .slice _ _ _, .slice _ _ _] rfl Tryd.func11 rfl ?_))))))))
  refine (shows_any o (As k) m (cs k) (opsK l k) A5 c5 od _ _ _ (hpart.pure hI.pu) ((StE.rd hI).mono fun _ _ => trivial) hfew (hk0.pure hI.pu)).mono ?_
  rintro e w3 ⟨hp, ⟨_, b, rfl, hb⟩ | ⟨h1, _⟩⟩
  rotate_left
  ·exact absurd hokK h1
  obtain rfl : b = true := hb.2 hsh
  refine ⟨_, rfl, ?_⟩
  replace hI := hI.pure hp
  refine Ta rfl (Vk rfl (Vk rfl (V6 rfl (Vy rfl (WL_nil (W_seq (W_region ?_)))))))
  refine WL_val rfl rfl rfl (by exact rMoveN rfl rfl) ?_
  refine WL_val rfl rfl rfl (by exact rNilNe rfl Tryd.underlying28 rfl) ?_
  refine V5 rfl (V5 rfl (T5 rfl (Vd rfl (V5 rfl (V8 rfl (Vi rfl Tryd.underlying24 rfl (V7 2 rfl (V3 (.slice _ _ _) rfl (hI.oldp F.oC) (V0 rfl (Tb rfl Tryd.underlying31 rfl (V3 (.slice _ _ _) rfl (hI.oldp oC) (Vi rfl Tryd.underlying24 rfl (Tl rfl ?_)))))))))))))
  refine Vd rfl (WL_nil (W_cond false rfl (W_skip (W_region (V0 rfl (Vb rfl (V9 rfl (WL_nil ?_))))))))
  exact ⟨⟨k + 1, by omega, ⟨rfl, rfl, rfl, rfl, rfl, trivial⟩, hI.d0⟩, by show 8 - ((k + 1 : Nat) : Int).toNat < 8 - (k : Int).toNat; omega⟩
 obtain ⟨x, hx⟩ : ∃ x, od[i]? = some x := ⟨_, List.getElem?_eq_getElem hil⟩
 have hxr := hidx x (List.mem_of_getElem? hx)
 obtain ⟨xn, rfl⟩ : ∃ xn : Nat, x = (xn : Int) := ⟨x.toNat, by omega⟩
 have hxm : xn < m := by omega
 obtain ⟨bo, oo, hCo, -, hoc⟩ := hocell (by omega)
 rw [hCo] at oC
 obtain ⟨bn, on, hBn, -, hnc⟩ := hncell (by omega)
 rw [hBn] at nC
 have hxl : xn < (numK l k).length := by rw [hnl]; exact hxm
 obtain ⟨bv, hbv⟩ : ∃ b, (numK l k)[xn]? = some b := ⟨_, List.getElem?_eq_getElem hxl⟩
 have qo := hoc i (.int .i64 bv) (by simp [i64s, hx, hbv])
 refine W_seq (W_seq (W_region (V0 rfl (V7 2 rfl (V3 (.slice _ _ _) rfl (hI.oldp F.oC) (V0 rfl (Tb rfl Tryd.underlying31 rfl (V3 (.slice _ _ _) rfl (hI.oldp oC) (Vi rfl Tryd.underlying24 rfl (Vt rfl (WL_nil (W_cond true rfl (W_skip ?_)))))))))))))
 refine W_seq (W_block (W_seq (W_region (V9 rfl (WL_nil (W_block ?_))))))
 refine W_loop (fun ρ w => ∃ (j q : Nat) (A6 : Option Addr) (c6 : Nat), j ≤ m ∧ q = (if j ≤ xn then i else i + 1) ∧ Has ρ ((14, .int .i64 (j : Int)) :: (12, .slice A6 q c6) :: (13, .int .i64 (i : Int)) :: (11, .int .i64 (k : Int)) :: Sl4 o b5 gp gn) ∧ Inv (fun _ => False) w0 w [Row 0 3 1 A6 q c6 (i64s (od.take q))]) (fun ρ _ => m - cnt (ρ 14)) ⟨0, i, _, _, by omega, by rw [if_pos (by omega)], ⟨rfl, rfl, rfl, rfl, rfl, rfl, rfl, rfl, trivial⟩, hI⟩ ?_
 clear hI
 rintro ρ w ⟨j, q, A6, c6, hj, hq, hH, hI⟩
 obtain ⟨σ, rfl⟩ := hH.open
 by_cases hjm : j < m
 rotate_left
 ·obtain rfl : j = m := by omega
  rw [if_neg (by omega)] at hq
  subst hq
  refine W_seq (W_seq (W_region (V0 rfl (V8 rfl (V0 rfl (Tb rfl Tryd.underlying31 rfl (V3 (.slice _ _ _) rfl (hI.oldp nC) (Vi rfl Tryd.underlying24 rfl (Vo rfl (WL_nil (W_cond false rfl ?_)))))))))))
  refine W_exit ?_
  refine W_region (V0 rfl (Vb rfl (V9 rfl (WL_nil ?_))))
  exact ⟨⟨i + 1, A6, c6, by omega, ⟨rfl, rfl, rfl, rfl, rfl, rfl, rfl, trivial⟩, hI⟩, by show od.length - ((i + 1 : Nat) : Int).toNat < od.length - (i : Int).toNat; omega⟩
 have hjl : j < (numK l k).length := by rw [hnl]; exact hjm
 obtain ⟨av, hav⟩ : ∃ b, (numK l k)[j]? = some b := ⟨_, List.getElem?_eq_getElem hjl⟩
 have qn := hnc j (.int .i64 av) (by simp [i64s, hav])
 refine W_seq (W_seq (W_region (V0 rfl (V8 rfl (V0 rfl (Tb rfl Tryd.underlying31 rfl (V3 (.slice _ _ _) rfl (hI.oldp nC) (Vi rfl Tryd.underlying24 rfl (Vt rfl (WL_nil (W_cond true rfl (W_skip (W_seq ?_)))))))))))))
 refine W_block ?_
 by_cases hjx : j = xn
 ·subst hjx
  obtain rfl : av = bv := by rw [hav] at hbv; exact Option.some.inj hbv
  rw [if_pos (by omega)] at hq
  replace hq := hq.symm
  subst hq
  have htk : i64s (od.take i) ++ [.int .i64 (j : Int)] = i64s (od.take (i + 1)) := by
   rw [List.take_add_one]
   simp [i64s, hx]
  refine W_seq (W_draw (by kernel_rfl) ?_)
  refine WA_inv (T := []) hI.drew ?_
  intro Sx hSx hXS
  replace hI := hI.drew
  refine Vv 0 (hXS _ hI) rfl (Vs 1 (hXS _ hI) rfl (Vl 2 (hXS _ hI) rfl Tryd.underlying31 rfl (Vh 3 (.slice _ _ _) (hXS _ hI) rfl (fun W hW => (hSx W hW).oldp nC) (Vs 4 (hXS _ hI) rfl ?_))))
  refine WT_take 5 rfl rfl (by kernel_rfl) (hXS _ hI) rfl (fun W hW => have hI := hSx W hW; (by exact rIdx1 rfl Tryd.underlying24 (by kernel_rfl) rfl rfl (by omega))) ?_
  refine Vh 6 (.int .i64 _) (hXS _ hI) rfl (fun W hW => (hSx W hW).oldp qn) (Vq 7 2 (hXS _ hI) rfl (Vh 8 (.slice _ _ _) (hXS _ hI) rfl (fun W hW => (hSx W hW).oldp F.oC) (Vs 9 (hXS _ hI) rfl (Vl 10 (hXS _ hI) rfl Tryd.underlying31 rfl (Vh 11 (.slice _ _ _) (hXS _ hI) rfl (fun W hW => (hSx W hW).oldp oC) (Vs 12 (hXS _ hI) rfl ?_))))))
  refine WT_take 13 rfl rfl (by kernel_rfl) (hXS _ hI) rfl (fun W hW => have hI := hSx W hW; (by exact rIdx1 rfl Tryd.underlying24 (by kernel_rfl) rfl rfl (by omega))) ?_
  refine Vh 14 (.int .i64 _) (hXS _ hI) rfl (fun W hW => (hSx W hW).oldp qo) ?_
  refine WT_take 15 rfl rfl (by kernel_rfl) (hXS _ hI) rfl (fun W hW => have hI := hSx W hW; (by exact rEqlT rfl rfl rfl (by omega))) ?_
  refine WT_end (by kernel_rfl) (W_cond true rfl (W_region (V8 rfl (V0 rfl (Vm [(0, .int .i64 _)] [_] [.int .i64 0] [0] hI rfl Tryd.underlying24 (fun _ => by kernel_rfl) ?_)))))
  clear hI; rintro b129 w - - hI
  refine WL_app1 (z := .int .i64 0) (by_ := 8) hI rfl rfl rfl rfl rfl rfl Tryd.underlying24 (by kernel_rfl) rfl (by omega) (by rfl) hI.lit0 (by rfl) (by omega) (by omega) (by exact Nat.zero_le _) ?_
  clear hI; rintro A130 c130 w hA130 hc130 hI
  replace hI := hI.d0
  refine Vf rfl (WL_nil ?_)
  rw [htk] at hI
  refine W_region (V0 rfl (Vb rfl (V9 rfl (WL_nil ?_))))
  exact ⟨⟨j + 1, i + 1, A130, c130, by omega, by rw [if_neg (by omega)], ⟨rfl, rfl, rfl, rfl, rfl, rfl, rfl, rfl, trivial⟩, hI⟩, by show m - ((j + 1 : Nat) : Int).toNat < m - (j : Int).toNat; omega⟩
 have hne : av ≠ bv := fun e => hjx (numK_inj hjl hxl (by
  rw [List.getElem?_eq_getElem hjl] at hav
  rw [List.getElem?_eq_getElem hxl] at hbv
  rw [Option.some.inj hav, Option.some.inj hbv, e]))
 refine W_seq (W_draw (by kernel_rfl) ?_)
 refine WA_inv (T := []) hI.drew ?_
 intro Sx hSx hXS
 replace hI := hI.drew
 refine Vv 0 (hXS _ hI) rfl (Vs 1 (hXS _ hI) rfl (Vl 2 (hXS _ hI) rfl Tryd.underlying31 rfl (Vh 3 (.slice _ _ _) (hXS _ hI) rfl (fun W hW => (hSx W hW).oldp nC) (Vs 4 (hXS _ hI) rfl ?_))))
 refine WT_take 5 rfl rfl (by kernel_rfl) (hXS _ hI) rfl (fun W hW => have hI := hSx W hW; (by exact rIdx1 rfl Tryd.underlying24 (by kernel_rfl) rfl rfl (by omega))) ?_
 refine Vh 6 (.int .i64 _) (hXS _ hI) rfl (fun W hW => (hSx W hW).oldp qn) (Vq 7 2 (hXS _ hI) rfl (Vh 8 (.slice _ _ _) (hXS _ hI) rfl (fun W hW => (hSx W hW).oldp F.oC) (Vs 9 (hXS _ hI) rfl (Vl 10 (hXS _ hI) rfl Tryd.underlying31 rfl (Vh 11 (.slice _ _ _) (hXS _ hI) rfl (fun W hW => (hSx W hW).oldp oC) (Vs 12 (hXS _ hI) rfl ?_))))))
 refine WT_take 13 rfl rfl (by kernel_rfl) (hXS _ hI) rfl (fun W hW => have hI := hSx W hW; (by exact rIdx1 rfl Tryd.underlying24 (by kernel_rfl) rfl rfl (by omega))) ?_
 refine Vh 14 (.int .i64 _) (hXS _ hI) rfl (fun W hW => (hSx W hW).oldp qo) ?_
 refine WT_take 15 rfl rfl (by kernel_rfl) (hXS _ hI) rfl (fun W hW => have hI := hSx W hW; (by exact rEqlF rfl rfl rfl (by omega))) ?_
 refine WT_end (by kernel_rfl) (W_cond false rfl (W_skip (W_region (V0 rfl (Vb rfl (V9 rfl (WL_nil ?_)))))))
 exact ⟨⟨j + 1, q, A6, c6, by omega, by rw [hq]; by_cases h1 : j ≤ xn <;> simp [h1] <;> omega, ⟨rfl, rfl, rfl, rfl, rfl, rfl, rfl, rfl, trivial⟩, hI⟩, by show m - ((j + 1 : Nat) : Int).toNat < m - (j : Int).toNat; omega⟩
end
section
variable {w0 : World} {o : Int} {l : List Op8} {A : Option Addr} {n c : Nat} {D : Nat → Prop} {ρ : Env}
set_option maxHeartbeats 2000000 in
theorem suf4_bad (h : OpsR w0 D (.slice A n c) l) (hk : KnOk w0) {x : Value} (hx : IsErr x) (hH : Has ρ [(0, .int .i64 o), (1, .slice A n c), (23, .tuple #[.agg zV.toArray, x])]) :
  WL Tryd.prog Tryd.f4.ntmps ops3 (thenQ (fun ρ w => W Tryd.prog Tryd.f4.ntmps rest4 (retQ Tryd.prog Tryd.f4 (fun en _ => en = .returned (.bool true))) ρ w) (fun _ _ _ => False)) (ops3.toList.drop 3) ρ w0 := by
 obtain ⟨z, rfl⟩ := hx
 obtain ⟨σ, rfl⟩ := hH.open
 have hI := Inv.start (fun _ => False) w0
 unfold ops3 rest4 s3 body4
 rw [Tryd.f4]
 dsimp only [Option.getD_some]
 show WL _ _ _ _ [_, _, _, _, _, _] _ _
 /-
 refine W_seq (W_region ?_)
 refine WL_val rfl rfl rfl (by first | exact rMoveI rfl rfl | exact rMove rfl) ?_
 refine WL_val rfl rfl rfl (by first | exact rMoveS rfl rfl | exact rMove rfl) ?_
 refine Va [.int .i64 _, .slice _ _ _, .int .i64 _, .int .i64 _] rfl Tryd.func7 rfl ?_
 -/
 refine Ta rfl (Vk rfl (Vk rfl (Vw (.agg #[.int .i64 0, .int .i64 0, .slice none 0 0]) (#[.int .i64 0, .int .i64 0, .slice none 0 0]) hI rfl ?_)))
 clear hI; rintro b5 w - - hI
 refine Vz 3 (#[_, _, _]) (.agg _) hI rfl ?_
 clear hI; intro w hI
 refine T6 rfl (WL_nil (W_seq (W_seq (W_region (Va [] rfl Tryd.func8 rfl ?_)))))
 refine (ltold_any _ (hk.pure hI.pu)).mono ?_
 rintro e w2 ⟨rfl, hp⟩
 refine ⟨_, rfl, ?_⟩
 replace hI := hI.pure hp
 refine T5 rfl (V5 rfl ?_)
 refine WL_val rfl rfl rfl (by exact rMoveE rfl rfl) ?_
 refine WL_val rfl rfl rfl (by exact rIfaceNe rfl Tryd.underlying28 rfl rfl) ?_
 refine Vd rfl (WL_nil (W_cond true rfl ?_))
 unfold zV at hI
 refine W_seq (W_region (Va [] rfl Tryd.func8 rfl ?_))
 refine (ltold_any _ (hk.pure hI.pu)).mono ?_
 rintro e w2 ⟨rfl, hp⟩
 refine ⟨_, rfl, ?_⟩
 replace hI := hI.pure hp
 refine V5 rfl (V7 0 rfl (V3 (.int .i64 _) rfl (hI.c0 rfl) (Vu rfl (Vg rfl (V6 rfl (WL_nil ?_))))))
 refine W_ret ?_
 exact ret1 4 (.inr rfl) rfl rfl
theorem Or4.pure {w1 : World} {g : Nat} {Cs : Nat → Option Addr} {es : Nat → Nat} (h : Or4 w0 o l g Cs es) (hp : Pure w0 w1) : Or4 w1 o l g Cs es :=
 ⟨fun k hk => ((Inv.start (fun _ => False) w0).pure hp).oldp (h.cell k hk), fun k hk => (h.row k hk).pure hp, h.one⟩
theorem fa4_of {w : World} {b5 gp gn : Nat} {code key : Int} {vo : Value} {As : Nat → Option Addr} {cs : Nat → Nat} {Bs : Nat → Option Addr} {ds : Nat → Nat} (hok : OkLin o l 0) (hl : l.length ≤ 8) (hk : KnOk w)
  (hI : Inv (fun _ => False) w0 w [Many 8 (pE l As cs l.length), Many 8 (nE l Bs ds l.length), B gp 22 (slC l As cs l.length), B gn 24 (slC l Bs ds l.length), B b5 33 #[.int .i64 code, .int .i64 key, vo]]) : Fa4 w o l b5 gp gn code key vo As cs Bs ds := by
 have hb5 : Blk w b5 33 #[.int .i64 code, .int .i64 key, vo] := hI.g4
 have hgp : Blk w gp 22 (slC l As cs l.length) := hI.g2
 have hgn : Blk w gn 24 (slC l Bs ds l.length) := hI.g3
 have hp := (hI.ok (Many 8 (pE l As cs l.length)) (by simp)).1.1
 have hn := (hI.ok (Many 8 (nE l Bs ds l.length)) (by simp)).1.1
 refine ⟨hok, hl, by rw [hb5.cell]; rfl, by rw [hb5.cell]; rfl, by rw [hb5.cell]; rfl, fun k hk => by rw [hgp.cell]; exact slC_get hk, fun k hk => by rw [hgn.cell]; exact slC_get hk, fun k hk => ?_, fun k hk => ?_, hk⟩
 ·unfold OpsR
  rw [opsK_len, opsK_row]
  exact Rd.of_own (hp k hk).1 fun _ _ _ => trivial
 ·exact Rd.of_own (hn k hk).1 fun _ _ _ => trivial
set_option maxHeartbeats 2000000 in
theorem suf4_ok (h : OpsR w0 D (.slice A n c) l) (hk : KnOk w0) (hok : OkLin o l 0) (hl : l.length ≤ 8) {code key : Int} {vo : Value} (hvo : vo = .slice none 0 0 ∨ ∃ g co, vo = .slice (some ⟨g, 0, none⟩) 8 co)
  (hcase : (∃ k : Nat, k < 8 ∧ code = 2 ∧ key = (k : Int) ∧ (fndK o 1000000 l k).code = 2) ∨ (code = 1 ∧ key = -1 ∧ ∃ g co Cs es, vo = .slice (some ⟨g, 0, none⟩) 8 co ∧ Or4 w0 o l g Cs es))
  (hH : Has ρ [(0, .int .i64 o), (1, .slice A n c), (23, .tuple #[.agg #[.int .i64 code, .int .i64 key, vo], .nilIface])]) :
  WL Tryd.prog Tryd.f4.ntmps ops3 (thenQ (fun ρ w => W Tryd.prog Tryd.f4.ntmps rest4 (retQ Tryd.prog Tryd.f4 (fun en _ => en = .returned (.bool true))) ρ w) (fun _ _ _ => False)) (ops3.toList.drop 3) ρ w0 := by
 obtain ⟨A0, n0, c0, rfl⟩ : ∃ A0 n0 c0, vo = .slice A0 n0 c0 := by rcases hvo with rfl | ⟨g, co, rfl⟩ <;> exact ⟨_, _, _, rfl⟩
 obtain ⟨σ, rfl⟩ := hH.open
 have hI := Inv.start (fun _ => False) w0
 have e7 : rest4 = .seq _ (.seq _ s7) := rfl
 unfold ops3 s3 body4
 rw [Tryd.f4]
 dsimp only [Option.getD_some]
 show WL _ _ _ _ [_, _, _, _, _, _] _ _
 /-
 refine W_seq (W_region ?_)
 refine WL_val rfl rfl rfl (by first | exact rMoveI rfl rfl | exact rMove rfl) ?_
 refine WL_val rfl rfl rfl (by first | exact rMoveS rfl rfl | exact rMove rfl) ?_
 refine Va [.int .i64 _, .slice _ _ _, .int .i64 _, .int .i64 _] rfl Tryd.func7 rfl ?_
 -/
 refine Ta rfl (Vk rfl (Vk rfl (Vw (.agg #[.int .i64 0, .int .i64 0, .slice none 0 0]) (#[.int .i64 0, .int .i64 0, .slice none 0 0]) hI rfl ?_)))
 clear hI; rintro b5 w - - hI
 refine Vz 3 (#[_, _, _]) (.agg _) hI rfl ?_
 clear hI; intro w hI
 refine Vy rfl (WL_nil ?_)
 rw [e7]
 refine W_seq (W_seq (W_region (Va [] rfl Tryd.func8 rfl ?_)))
 refine (ltold_any _ (hk.pure hI.pu)).mono ?_
 rintro e w2 ⟨rfl, hp⟩
 refine ⟨_, rfl, ?_⟩
 replace hI := hI.pure hp
 refine T5 rfl (V5 rfl ?_)
 refine WL_val rfl rfl rfl (by exact rMoveN rfl rfl) ?_
 refine WL_val rfl rfl rfl (by exact rNilNe rfl Tryd.underlying28 rfl) ?_
 refine Vd rfl (WL_nil (W_cond false rfl (W_skip (W_seq (W_region (V8 rfl (Va [.slice _ _ _] rfl Tryd.func10 rfl ?_)))))))
 refine (split_any A n c l D _ (h.pure hI.pu) (by omega)).mono ?_
 rintro e w1 ⟨gp, gn, As, cs, Bs, ds, rfl, hT⟩
 refine ⟨_, rfl, ?_⟩
 replace hI := hI.app hT
 refine Ta rfl (Vk rfl (Vk rfl (Vf rfl (Vf rfl (WL_nil ?_)))))
 have hO := fun g Cs es (hh : Or4 w0 o l g Cs es) => hh.pure hI.pu
 have F : Fa4 w1 o l b5 gp gn code key (.slice A0 n0 c0) As cs Bs ds := fa4_of hok hl (hk.pure hI.pu) hI
 rcases hcase with ⟨k, hk8, rfl, rfl, h2⟩ | ⟨rfl, rfl, g, co, Cs, es, e, hor⟩
 ·exact inv7_any F hk8 h2 ⟨rfl, rfl, rfl, rfl, trivial⟩
 ·cases e
  exact ord7_any F (hO _ _ _ hor) ⟨rfl, rfl, rfl, rfl, trivial⟩
end
end Go.Proofs.YtkkmokodaejheaaDoor
namespace Go.Proofs.YtkkmokodaejheaaDoor
open Go Go.Conc Go.RowKit
set_option linter.unusedVariables false
set_option linter.unusedSimpArgs false
section
variable {P : Program}
theorem good2_region {f : FuncId} {fn : Func} {c : Code} {T : Array Value} {v : World} {R : Ending → World → Prop} {ops : Array Oper} {k n : Nat} {l : List Oper} (hf : P.funcs[f]? = some fn) (hT : T.size = fn.ntmps) (hn : l.length = n) (hl : ∀ j, l[j]? = ops[k + j]?)
  (h : ∀ t, WL P fn.ntmps ops (thenQ (fun ρ w => W P fn.ntmps c (retQ P fn R) ρ w) (fun _ _ _ => False)) l (fun i => T.getD i undef) (v.tp t)) :
  Good2 P (fun f' T' w => f' = f ∧ KRof P (fun u w => R (.returned u) w) f' T' w) (fun f' T' w => f' = f ∧ T'.size = fn.ntmps ∧ KRof P (fun u w => R (.returned u) w) f' T' w) ⟨fm f T [.inRegion ops (List.range' k n), .code c, mkI], [], v⟩ := by
 subst hn
 intro t ht
 have h1 := h t
 unfold WL at h1
 have h2 := h1 ⟨T, []⟩ (fit_of hT)
 rw [← wpOps_eq_wpList l k hl] at h2
 obtain ⟨e, a', w', hq, harr⟩ := wp_ops _ _ _ h2 (base f) [.code c, mkI] [sent]
 cases e with
 | normal =>
  obtain ⟨ρ, hfit, hK⟩ := hq
  have hK : W P fn.ntmps c (retQ P fn R) ρ w' := hK
  obtain ⟨n1, hn1⟩ := harr
  unfold W at hK
  obtain ⟨e2, a2, w2, hq2, harr2⟩ := hK a' hfit (base f) [mkI] [sent]
  cases e2 with
  | normal =>
   obtain ⟨ρ2, hfit2, hK2⟩ := hq2
   obtain ⟨u, hr, hR⟩ := retQ_nrm hK2 a2 hfit2
   obtain ⟨n2, hn2⟩ := harr2
   exact ⟨n1 + n2, _, w2, by
    show runN P (n1 + n2) (lone ((base f).at ⟨T, []⟩ _) [sent] (v.tp t)) = _
    rw [runN_add, hn1]; exact hn2, .inr ⟨rfl, rfl, rfl, hfit2.size, fn, u, hf, hr, hR⟩⟩
  | ret =>
   obtain ⟨ρ2, hfit2, hK2⟩ := hq2
   obtain ⟨todo, n2, hn2⟩ := harr2
   obtain ⟨u, hr, hR⟩ := retQ_ret hK2 a2 hfit2
   exact ⟨n1 + n2, _, w2, by
    show runN P (n1 + n2) (lone ((base f).at ⟨T, []⟩ _) [sent] (v.tp t)) = _
    rw [runN_add, hn1]; exact hn2, .inl ⟨rfl, rfl, fn, u, hf, hr, hR⟩⟩
  | panic c => exact absurd (retQ_no hq2.2) (by simp)
  | exit id => obtain ⟨_, _, h⟩ := hq2; exact absurd (retQ_no h) (by simp)
  | goto l => obtain ⟨_, _, h⟩ := hq2; exact absurd (retQ_no h) (by simp)
  | outgrown => exact hq2.elim
 | ret => exact (let ⟨_, _, h⟩ := hq; h.elim)
 | panic c => exact hq.2.elim
 | exit id => exact (let ⟨_, _, h⟩ := hq; h.elim)
 | goto l => exact (let ⟨_, _, h⟩ := hq; h.elim)
 | outgrown => exact hq.elim
theorem ends_mbx {z' : Nat} {a : Goroutine} {W0 : World} {Post : Value → World → Prop}
  (h : MBX P (fun _ => False) 1 z' a W0 (fun SB' g w => g.status = .running ∧ ∀ d, ∃ v, stepG P true g (w.at d) = .ended (.done v) (w.at d) #[] ∧ Post v (w.at d))) :
  ∃ M last o w' t', runNT P (M + 1) (solo a W0) #[] = (.ended o w', t') ∧ runN P M (solo a W0) = .next last ∧ step P last = .ended o w' ∧ Go.Conc.Good P Post last o w' t' := by
 have hp : Past (shunOf fun _ => False) W0.heap.size #[] := by
  have e : (shunOf fun _ => False) = fun _ => False := by
   funext l
   apply propext
   exact ⟨fun ⟨_, _, h⟩ => h, fun h => h.elim⟩
  rw [e]
  exact past_nil.mono (Nat.zero_le _)
 obtain ⟨N, gs, g, w, sl, t, q, SB', hr, hz, h0, hL, hP, hst, hend⟩ := h #[a] none #[] (fun _ => 0) rfl rfl (leavers_one _ _) hp
 have hG : Goes P true AtRel Go.ConcR.DC0 (AtEnd P (shunOf SB') w.heap.size Post) 0 g w := by
  intro w1 hw1
  obtain ⟨d, rfl⟩ := hw1
  obtain ⟨v, h1, h2⟩ := hend d
  exact ⟨hst, v, #[], h1, fun e he => by simp at he, h2⟩
 obtain ⟨K4, last, o, w', t', e1, e2, e3, e4⟩ := beside_ends (P := P) (Post := Post) (sl := sl) (D := Go.ConcR.DC0) evL_dc0 h0 hL hP hG
 refine ⟨N + K4, last, o, w', t', ?_, ?_, e3, e4⟩
 ·rw [solo_eq_crowd, Nat.add_assoc, runNT_add, hr]; exact e1
 ·rw [solo_eq_crowd, runN_add, ← runNT_fst P _ _ #[], hr]; exact e2
end
end Go.Proofs.YtkkmokodaejheaaDoor
namespace Go.Proofs.YtkkmokodaejheaaDoor
open Go Go.Conc Go.RowKit
set_option linter.unusedVariables false
set_option linter.unusedSimpArgs false
set_option maxRecDepth 100000
noncomputable def pre4 : Code := match body4 with | .seq a (.seq b _) => .seq a (.seq b .skip) | _ => .skip
theorem gr4 : Gr Tryd.prog lcS s3 pre4 body4 := by
 unfold s3 pre4 body4
 rw [Tryd.f4]
 dsimp only [Option.getD_some]
 exact .seq (by kernel_rfl) (.seq (by kernel_rfl) .fin)
theorem s3_eq : s3 = .seq (.region 3 ops3 false) rest4 := by
 unfold s3 ops3 rest4 s3 body4
 rw [Tryd.f4]
 dsimp only [Option.getD_some]
theorem ntmps4 : Tryd.f4.ntmps = 158 := by kernel_rfl
section
variable {w0 : World} {o : Int} {l : List Op8} {A : Option Addr} {n c : Nat}
set_option maxHeartbeats 2000000 in
theorem pre4_any {D : Nat → Prop} (h : OpsR w0 D (.slice A n c) l) : W Tryd.prog Tryd.f4.ntmps pre4 (pieceQ Tryd.prog Tryd.f4 (fun en w' => 8 < l.length ∧ en = .returned (.bool true)) (fun ρ w' => l.length ≤ 8 ∧ Has ρ [(0, .int .i64 o), (1, .slice A n c)])) (entry #[.int .i64 o, .slice A n c]) w0 := by
 obtain ⟨hn, hc1, hc2⟩ := h.len
 subst hn
 have hI := Inv.start (fun _ => False) w0
 unfold pre4 body4
 rw [Tryd.f4]
 dsimp only [Option.getD_some]
 refine W_seq (W_region (V6 rfl (WL_nil ?_)))
 by_cases h8 : l.length ≤ 8
 rotate_left
 ·refine W_seq (W_seq (W_region (V8 rfl (Vi rfl Tryd.underlying22 rfl ?_))))
  refine WL_val rfl rfl rfl (by exact rGtrT rfl rfl rfl (by omega)) ?_
  refine WL_nil (W_cond true rfl (W_seq (W_region (V6 rfl (WL_nil ?_)))))
  refine W_ret ?_
  exact ret1 4 (.inr rfl) rfl ⟨by omega, rfl⟩
 refine W_seq (W_seq (W_region (V8 rfl (Vi rfl Tryd.underlying22 rfl ?_))))
 refine WL_val rfl rfl rfl (by exact rGtrF rfl rfl rfl (by omega)) ?_
 refine WL_nil (W_cond false rfl (W_skip (W_skip ?_)))
 exact ⟨h8, rfl, rfl, trivial⟩
end
theorem vr_oldS {F : FuncId → Prop} {π : Ren} {D O : Nat → Prop} {b0 : Nat} (hle : (idrO D O b0).Le π) {A : Option Addr} {n c : Nat} {y : Value} (hD : ∀ b, A.map (·.block) = some b → D b) (h : VR F π (.slice A n c) y) : y = .slice A n c := by
 cases A with
 | none => exact (LitV.slice0 _ _).eq h
 | some a =>
  cases h with
  | slice _ _ ha =>
   rename_i a'
   obtain ⟨h1, h2, h3⟩ := ha
   have := hle.to _ _ (idr_of (hD _ rfl))
   rw [h1] at this
   have e : a'.block = a.block := Option.some.inj this
   obtain ⟨x1, x2, x3⟩ := a
   obtain ⟨y1, y2, y3⟩ := a'
   dsimp only at e h2 h3
   rw [e, h2, h3]
noncomputable def b4 : Frame := base 4
theorem kind4 : b4.kind ≠ .early := by simp [b4, base]
def StopP (SB : Nat → Prop) (w0 : World) (o : Int) (A : Option Addr) (n c : Nat) (l : List Op8) (_ : Nat → Prop) (g : Goroutine) (w : World) : Prop :=
 Kept SB w0 w ∧ ((8 < l.length ∧ ∃ t' todo', g = G (fmR 4 t' todo') [] ∧ t'.getD 4 undef = .bool true) ∨
  (l.length ≤ 8 ∧ ∃ ρ a, Fit 158 ρ a ∧ ρ 0 = .int .i64 o ∧ ρ 1 = .slice A n c ∧ g = In7 #[.int .i64 o, .slice A n c, .int .i64 1000000, .int .i64 3] [b4.at a (.inRegion ops3 (2 :: List.range' 3 6) :: [.code rest4])]))
theorem ret_slot {P : Program} {fn : Func} {T : Array Value} {w w' : World} {u : Value} {s : Nat} (hr : fn.results = #[.tmp s]) (h : (results fn T).run P w = .ok u w') : u = T.getD s undef := by
 simp [results, hr] at h
 rw [← h.1, Array.getD_eq_getD_getElem?]
section
variable {SB : Nat → Prop} {w : World} {o : Int} {l : List Op8} {A : Option Addr} {n c : Nat}
theorem own_s3 {SB : Nat → Prop} {w0 w : World} {M : Nat → Prop} {T : Array Value} (hT : T.size = 158) (h0 : T.getD 0 undef = .int .i64 o) (h1 : T.getD 1 undef = .slice A n c) (hl : l.length ≤ 8) (hK : Kept SB w0 w) :
  Own Tryd.prog true (RK SB w0) (fun _ => True) (fun _ => False) (StopP SB w0 o A n c l) M (G (b4.at ⟨T, []⟩ [.code s3]) []) w := by
 rw [s3_eq]
 refine Own.move rfl (fun w1 => stepG_seq) fun w1 hr => Own.rely ?_ hr
 refine Own.move rfl (fun w1 => stepG_region) fun w1 hr => Own.rely ?_ hr
 have hf := fit_of hT
 have ha : (⟨T, []⟩ : Act) = ⟨T, []⟩ := rfl
 generalize hρ : (fun i => T.getD i undef) = ρ at hf
 have h0 : ρ 0 = .int .i64 o := by rw [← hρ]; exact h0
 have h1 : ρ 1 = .slice A n c := by rw [← hρ]; exact h1
 clear hρ
 generalize (⟨T, []⟩ : Act) = a at hf
 have d0 : (ops3.getD 0 default).dst = some 21 := by simp only [ops3, rest4, s3, body4, Tryd.f4, Option.getD_some]; rfl
 have d1 : (ops3.getD 1 default).dst = some 22 := by simp only [ops3, rest4, s3, body4, Tryd.f4, Option.getD_some]; rfl
 have o0 : (ops3.getD 0 default).op = .move (.tmp 0) := by simp only [ops3, rest4, s3, body4, Tryd.f4, Option.getD_some]; rfl
 have o1 : (ops3.getD 1 default).op = .move (.tmp 1) := by simp only [ops3, rest4, s3, body4, Tryd.f4, Option.getD_some]; rfl
 have hl3 : List.range ops3.size = [0, 1, 2, 3, 4, 5, 6, 7, 8] := by simp only [ops3, rest4, s3, body4, Tryd.f4, Option.getD_some]; rfl
 rw [hl3]
 refine own_val (o := ops3.getD 0 default) (v := .int .i64 o) (by simp only [ops3, rest4, s3, body4, Tryd.f4, Option.getD_some]; rfl) (by simp only [ops3, rest4, s3, body4, Tryd.f4, Option.getD_some]; rfl) kind4 (fun w1 r => ?_) ?_
 ·rw [hf.eval]
  have := op_move (P := Tryd.prog) (R := RK SB w0) (w := w1) (ρ := ρ) (v := .int .i64 o) o0 h0
  exact ⟨this.1, fun e he => okev_none (this.2 e he)⟩
 rw [d0]
 have hf := hf.put (d := 21) (by omega) (.int .i64 o)
 generalize a.put (some 21) (.int .i64 o) = a1 at hf ⊢
 refine own_val (o := ops3.getD 1 default) (v := .slice A n c) (by simp only [ops3, rest4, s3, body4, Tryd.f4, Option.getD_some]; rfl) (by simp only [ops3, rest4, s3, body4, Tryd.f4, Option.getD_some]; rfl) kind4 (fun w1 r => ?_) ?_
 ·rw [hf.eval]
  have h1' : ev (upd ρ 21 (.int .i64 o)) (.tmp 1) = .slice A n c := h1
  have := op_move (P := Tryd.prog) (R := RK SB w0) (w := w1) o1 h1'
  exact ⟨this.1, fun e he => okev_none (this.2 e he)⟩
 rw [d1]
 have hf := hf.put (d := 22) (by omega) (.slice A n c)
 generalize a1.put (some 22) (.slice A n c) = a2 at hf ⊢
 have ho : (ops3.getD 2 default).op = .call { callee := .value (.func 7), args := [.tmp 21, .tmp 22, .const (.int .i64 1000000), .const (.int .i64 3)].toArray, argTypes := (match (ops3.getD 2 default).op with | .call c => c.argTypes | _ => #[]) } := by simp only [ops3, rest4, s3, body4, Tryd.f4, Option.getD_some]; rfl
 have hb7 : Tryd.f7.body = some body7 := by
  unfold body7
  cases h : Tryd.f7.body with
  | some c => rfl
  | none => exact absurd (show Tryd.f7.body.isSome = true by kernel_rfl) (by rw [h]; simp)
 refine own_call (o := ops3.getD 2 default) (f := 7) (fn := Tryd.f7) (c := body7) (args := #[.int .i64 o, .slice A n c, .int .i64 1000000, .int .i64 3]) (by simp only [ops3, rest4, s3, body4, Tryd.f4, Option.getD_some]; rfl) (by simp only [ops3, rest4, s3, body4, Tryd.f4, Option.getD_some]; rfl) kind4 Tryd.func7 hb7 (fun w1 r => ?_) fun w1 r => ?_
 ·rw [hf.eval]
  refine ⟨rCall ho Tryd.func7 (by kernel_rfl) (by kernel_rfl) rfl, fun e he => ?_⟩
  rw [ev_call ho Tryd.func7 (by kernel_rfl) (by kernel_rfl)] at he
  simp at he
 ·refine .stop fun w2 r2 => ⟨(hK.rely r).rely r2, .inr ⟨hl, _, a2, hf, h0, h1, rfl⟩⟩
end
theorem rest4_ok : okItems Tryd.prog lcS [.inRegion ops3 (List.range' 3 6), .code rest4] := by
 intro it hit
 rcases List.mem_cons.1 hit with rfl | hit
 ·unfold ops3 s3 body4
  rw [Tryd.f4]
  dsimp only [Option.getD_some]
  kernel_rfl
 ·rw [List.mem_singleton.1 hit]
  unfold rest4 s3 body4
  rw [Tryd.f4]
  dsimp only [Option.getD_some]
  kernel_rfl
section
variable {SB : Nat → Prop} {w : World} {o : Int} {l : List Op8} {A : Option Addr} {n c : Nat}
theorem true_of {F : FuncId → Prop} {π : Ren} {t t' : Array Value} {v v' : World} {u : Value} (hr : (results Tryd.f4 t).run Tryd.prog v = .ok u v') (hu : Ending.returned u = .returned (.bool true)) (ht : AR (VR F π) t t') : t'.getD 4 undef = .bool true := by
 injection hu with hu
 have := ret_slot (s := 4) (by kernel_rfl) hr
 have h4 := ht.getD 4 (VR.undef (F := F) (π := π))
 rw [← this, hu] at h4
 generalize t'.getD 4 undef = y at h4 ⊢
 cases h4
 rfl
theorem own_in4 (C : Ctx7 SB w A n c l) {T : Array Value} (hT : T.size = Tryd.f4.ntmps) (hTe : (fun i => T.getD i undef) = entry #[.int .i64 o, .slice A n c]) (hTs : ∀ u ∈ T, VR (SF lcS) (idr (D7 A) 0) u u) :
  Own Tryd.prog true (RK SB w) (fun _ => True) (fun _ => False) (StopP SB w o A n c l) none_ (G (fm 4 T [.code body4]) []) w := by
 have hC : Closed (RK SB w) w (D7 A) := ⟨fun k hk => C.lt hk, fun k hk => C.row hk⟩
 refine own_pre (KR := fun f' T' v => f' = 4 ∧ KRof Tryd.prog (fun u v => 8 < l.length ∧ Ending.returned u = .returned (.bool true)) f' T' v)
  (KO := fun f' T' v => f' = 4 ∧ T'.size = Tryd.f4.ntmps ∧ l.length ≤ 8 ∧ Has (fun i => T'.getD i undef) [(0, .int .i64 o), (1, .slice A n c)])
  (r0 := s3) (x0 := pre4) (D := D7 A) (O := fun _ => False) (fun w1 => Kept SB w w1) (fun M w1 w2 r h => h.rely r) (fun M' w1 w2 hM s h => h.spares (fun b hb => (hM b hb).elim (fun h => h.elim) id) s) (Kept.refl _ _)
  lc_fine Tryd.func4 gr4 C.gsz (fun g hg => .inr (by simpa [lcS] using hg)) hC.o (T0 := T) (AR.self hTs) ?_ ?_ ?_
 ·refine good2_piece (R := fun en w' => 8 < l.length ∧ en = .returned (.bool true)) (KO := fun ρ v => l.length ≤ 8 ∧ Has ρ [(0, .int .i64 o), (1, .slice A n c)]) Tryd.func4 hT fun t => ?_
  rw [hTe]
  exact pre4_any (opsR_idv t (Rd.mono C.ops fun k hk => .inl hk) : OpsR (idv (SF lcS) (D7 A) (w.tp t)) (D7 A) (.slice A n c) l)
 ·rintro π f t t' todo' v w1 M' hle ht hf hK hW hown hM0 hMb hJ
  obtain ⟨rfl, fn, u, hfn, hr, h8, hu⟩ := hK v.tape fun _ _ => rfl
  rw [Tryd.func4] at hfn
  cases hfn
  exact .stop fun w2 r2 => ⟨hJ.rely r2, .inl ⟨h8, t', todo', rfl, true_of hr hu ht⟩⟩
 ·rintro π f t t' v w1 M' hle ht ⟨rfl, hT', hl, h0, h1, -⟩ hW hown hM0 hMb hJ
  have g0 := ht.getD 0 (VR.undef (F := SF lcS) (π := π))
  have g1 := ht.getD 1 (VR.undef (F := SF lcS) (π := π))
  dsimp only at h0 h1
  rw [h0] at g0
  rw [h1] at g1
  exact own_s3 (by rw [← ht.1, hT', ntmps4]) (LitV.eq (.int _ _) g0) (vr_oldS hle (fun b hb => .inl hb) g1) hl hJ
def StopF (SB : Nat → Prop) (w0 : World) (_ : Nat → Prop) (g : Goroutine) (w : World) : Prop := Kept SB w0 w ∧ ∃ t' todo', g = G (fmR 4 t' todo') [] ∧ t'.getD 4 undef = .bool true
theorem own_suf4 {D : Nat → Prop} (hC : Closed (RK SB w) w D) (hV : ∀ g, g < 4 → D g) (hgsz : Tryd.prog.globals.size ≤ w.heap.size) {ρ : Env} {a : Act} (hf : Fit 158 ρ a) (h0 : ρ 0 = .int .i64 o) (h1 : ρ 1 = .slice A n c) (hA : ∀ b, A.map (·.block) = some b → D b) {u : Value} (hu : VR (SF lcS) (idr D 0) u u)
  (hW : ∀ t ρ', Has ρ' [(0, .int .i64 o), (1, .slice A n c), (23, u)] → WL Tryd.prog Tryd.f4.ntmps ops3 (thenQ (fun ρ w => W Tryd.prog Tryd.f4.ntmps rest4 (retQ Tryd.prog Tryd.f4 (fun en _ => en = .returned (.bool true))) ρ w) (fun _ _ _ => False)) (ops3.toList.drop 3) ρ' (idv (SF lcS) D (w.tp t))) :
  Own Tryd.prog true (RK SB w) (fun _ => True) (fun _ => False) (StopF SB w) none_ (G ((b4.at a (.inRegion ops3 (2 :: List.range' 3 6) :: [.code rest4])).finish u) []) w := by
 rw [Frame.finish_at]
 have hd : (ops3[2]?).bind (·.dst) = some 23 := by simp only [ops3, rest4, s3, body4, Tryd.f4, Option.getD_some]; rfl
 rw [hd]
 have hf := hf.put (d := 23) (by omega) u
 have ha := act_eq hf
 have hTs : (a.put (some 23) u).tmps.size = 158 := hf.size
 have get : ∀ i v, i < 158 → upd ρ 23 u i = v → (a.put (some 23) u).tmps[i]? = some v := fun i v hi hv => by
  have e1 := hf.get i
  rw [hv, Array.getD_eq_getD_getElem?] at e1
  have e3 : i < (a.put (some 23) u).tmps.size := by rw [hTs]; exact hi
  rw [Array.getElem?_eq_getElem e3] at e1 ⊢
  exact congrArg some e1
 have t0 := get 0 _ (by omega) h0
 have t1 := get 1 _ (by omega) h1
 have t23 := get 23 u (by omega) rfl
 rw [ha]
 generalize (a.put (some 23) u).tmps = T at hTs t0 t1 t23 ⊢
 clear get ha hf
 have hg : Good2 Tryd.prog (fun f' T' w => f' = 4 ∧ KRof Tryd.prog (fun u w => Ending.returned u = .returned (.bool true)) f' T' w) (fun f' T' w => f' = 4 ∧ T'.size = Tryd.f4.ntmps ∧ KRof Tryd.prog (fun u w => Ending.returned u = .returned (.bool true)) f' T' w)
   ⟨fm 4 (vwT (SF lcS) D T) [.inRegion ops3 (List.range' 3 6), .code rest4, mkI], [], idv (SF lcS) D w⟩ := by
  refine good2_region (R := fun en _ => en = .returned (.bool true)) (l := ops3.toList.drop 3) Tryd.func4 (by rw [ntmps4, ← hTs]; simp [vwT]) (by simp only [ops3, rest4, s3, body4, Tryd.f4, Option.getD_some]; rfl) (fun j => by simp) fun t => ?_
  refine hW t _ ⟨vwT_get t0 (.int _ _), vwT_get t1 (vr_sl0 hA), vwT_get t23 hu, trivial⟩
 have hlow : ∀ M' : Nat → Prop, (∀ k, M' k → none_ k ∨ w.heap.size ≤ k) → ∀ k, M' k → w.heap.size ≤ k := fun M' hM k hk => (hM k hk).elim (fun e => e.elim) id
 have key := own_piece (P := Tryd.prog) (S := lcS) (main := true) (R := RK SB w) (Sh := fun _ => True) (X := fun _ => False) (Stop := StopF SB w) (cs0 := []) (M := none_) (O := fun _ => False) (KR := fun f' T' w => f' = 4 ∧ KRof Tryd.prog (fun u w => Ending.returned u = .returned (.bool true)) f' T' w) (KO := fun f' T' w => f' = 4 ∧ T'.size = Tryd.f4.ntmps ∧ KRof Tryd.prog (fun u w => Ending.returned u = .returned (.bool true)) f' T' w) (r := [])
  (fun w1 => Kept SB w w1) (fun M w1 w2 r h => h.rely r) (fun M' w1 w2 hM s h => h.spares (hlow M' hM) s) (Kept.refl _ _) lc_fine (f := 4) (T0 := vwT (SF lcS) D T) (T := T) Tryd.func4 rest4_ok hgsz (fun g hg => hV g (by simpa [lcS] using hg)) hC.o (vwT_ar _ _ T) hg ?_ ?_
 ·rw [List.append_nil] at key
  exact key
 ·rintro π f t t' todo' v w1 M' hle ht hf hK hW hown hM0 hMb hJ
  obtain ⟨rfl, fn, u, hfn, hr, hu⟩ := hK v.tape fun _ _ => rfl
  rw [Tryd.func4] at hfn
  cases hfn
  exact .stop fun w2 r2 => ⟨hJ.rely r2, t', todo', rfl, true_of hr hu ht⟩
 ·rintro π f t t' v w1 M' hle ht ⟨rfl, hT', fn, u, hfn, hr, hu⟩ hW hown hM0 hMb hJ
  rw [Tryd.func4] at hfn
  cases hfn
  refine Own.move rfl (fun w2 => stepG_end) fun w2 r2 => .stop fun w3 r3 => ⟨(hJ.rely r2).rely r3, t', [], rfl, true_of hr hu ht⟩
end
theorem fin4 (t' : Array Value) (todo' : List Item) (w : World) : stepG Tryd.prog true (G (fmR 4 t' todo') []) w = .ended (.done (t'.getD 4 undef)) w #[] := by
 have hr : Tryd.f4.results = #[.tmp 4] := by kernel_rfl
 have hrun : (results Tryd.f4 t').run Tryd.prog w = .ok (t'.getD 4 undef) w := by
  rw [Array.getD_eq_getD_getElem?]
  simp [results, hr]
 have hev : (results Tryd.f4 t').events Tryd.prog w #[] = #[] := by simp [results, hr]
 simp [G, fmR, fm, stepG, unwind, doReturn, Frame.at, base, Tryd.func4, seen, GStep.after, hrun, hev]
section
variable {W0 : World} {o : Int} {l : List Op8} {A : Option Addr} {n c : Nat}
theorem vr_tup {F : FuncId → Prop} {π : Ren} {a b : Value} (ha : VR F π a a) (hb : VR F π b b) : VR F π (.tuple #[a, b]) (.tuple #[a, b]) := .tuple' (AR.self fun u hu => by
 simp only [List.mem_toArray, List.mem_cons, List.not_mem_nil, or_false] at hu
 rcases hu with rfl | rfl
 ·exact ha
 ·exact hb)
theorem vr_ag3 {F : FuncId → Prop} {π : Ren} {a b d : Value} (ha : VR F π a a) (hb : VR F π b b) (hd : VR F π d d) : VR F π (.agg #[a, b, d]) (.agg #[a, b, d]) := .agg' (AR.self fun u hu => by
 simp only [List.mem_toArray, List.mem_cons, List.not_mem_nil, or_false] at hu
 rcases hu with rfl | rfl | rfl
 ·exact ha
 ·exact hb
 ·exact hd)
def DO (A : Option Addr) (g : Nat) (Cs : Nat → Option Addr) (b : Nat) : Prop := D7 A b ∨ b = g ∨ ∃ k, k < 8 ∧ (Cs k).map (·.block) = some b
def PostL (W0 : World) (v : Value) (w : World) : Prop := v = .bool true ∧ Kept (fun _ => False) W0 w
def FinL (W0 : World) (_ : Nat → Prop) (g : Goroutine) (w : World) : Prop := g.status = .running ∧ ∀ d, ∃ v, stepG Tryd.prog true g (w.at d) = .ended (.done v) (w.at d) #[] ∧ PostL W0 v (w.at d)
theorem finL {SB' : Nat → Prop} {w : World} {t' : Array Value} {todo' : List Item} (ht : t'.getD 4 undef = .bool true) (hK : Kept (fun _ => False) W0 w) : FinL W0 SB' (G (fmR 4 t' todo') []) w :=
 ⟨rfl, fun d => ⟨_, fin4 t' todo' (w.at d), ht, ⟨hK.size, hK.blk, hK.tape, hK.os, hK.out⟩⟩⟩
theorem suf_mb {SB' : Nat → Prop} {w : World} {D : Nat → Prop} {z : Nat} (hK : Kept (fun _ => False) W0 w) (hSB : ∀ b, SB' b → W0.heap.size ≤ b ∧ b < w.heap.size) (hC : Closed (RK SB' w) w D) (hV : ∀ g, g < 4 → D g) (hgsz : Tryd.prog.globals.size ≤ w.heap.size) {ρ : Env} {a : Act} (hf : Fit 158 ρ a) (h0 : ρ 0 = .int .i64 o) (h1 : ρ 1 = .slice A n c) (hA : ∀ b, A.map (·.block) = some b → D b) {u : Value} (hu : VR (SF lcS) (idr D 0) u u)
  (hW : ∀ t ρ', Has ρ' [(0, .int .i64 o), (1, .slice A n c), (23, u)] → WL Tryd.prog Tryd.f4.ntmps ops3 (thenQ (fun ρ w => W Tryd.prog Tryd.f4.ntmps rest4 (retQ Tryd.prog Tryd.f4 (fun en _ => en = .returned (.bool true))) ρ w) (fun _ _ _ => False)) (ops3.toList.drop 3) ρ' (idv (SF lcS) D (w.tp t))) :
  MBX Tryd.prog SB' z z (G ((b4.at a (.inRegion ops3 (2 :: List.range' 3 6) :: [.code rest4])).finish u) []) w (FinL W0) := by
 refine MBX.mono (MB.x (MB.own (fun _ _ h => h) (own_suf4 (SB := SB') hC hV hgsz hf h0 h1 hA hu hW) (fun M a' w' h => ?_) (fun k hk => hk.elim) (fun k hk => hk) (fun k hk => (hSB k hk).2))) ?_
 ·obtain ⟨_, t', todo', rfl, _⟩ := h
  rfl
 ·rintro SB3 g3 w3 ⟨rfl, hs3, M3, hM3, hk3, t', todo', rfl, ht⟩
  exact finL ht (hK.trans hk3 fun b hb hs => by have := (hSB b hs).1; omega)
theorem in4_mb (C : Ctx7 (fun _ => False) W0 A n c l) {T : Array Value} (hT : T.size = Tryd.f4.ntmps) (hTe : (fun i => T.getD i undef) = entry #[.int .i64 o, .slice A n c]) (hTs : ∀ u ∈ T, VR (SF lcS) (idr (D7 A) 0) u u) :
  ∃ z', MBX Tryd.prog (fun _ => False) 1 z' (G (fm 4 T [.code body4]) []) W0 (FinL W0) := by
 have first := MB.x (MB.own (z := 1) (fun _ _ h => h) (own_in4 C hT hTe hTs) (fun M a' w' h => by
  rcases h with ⟨_, ⟨_, t', todo', rfl, _⟩ | ⟨_, ρ, a, _, _, _, rfl⟩⟩
  ·rfl
  ·rfl) (fun k hk => hk.elim) (fun k hk => hk) (fun k hk => hk.elim))
 by_cases h8 : 8 < l.length
 ·refine ⟨1, first.mono ?_⟩
  rintro SB1 g1 w1 ⟨rfl, hs1, M1, hM1, hk1, ⟨_, t', todo', rfl, ht⟩ | ⟨h, _⟩⟩
  ·exact finL ht hk1
  ·omega
 have hl : l.length ≤ 8 := by omega
 by_cases hok : OkLin o l 0
 rotate_left
 ·refine ⟨1, first.bind ?_⟩
  rintro SB1 g1 w1 ⟨rfl, hs1, M1, hM1, hk1, ⟨h, _⟩ | ⟨_, ρ, a, hf, h0, h1, rfl⟩⟩
  ·omega
  have C1 : Ctx7 (fun _ => False) w1 A n c l := C.kept hk1 fun b hb => hb.elim
  refine MBX.bind (check7_bad C1 (wkn := 3) (by omega) (by omega) (by omega) (by omega) (by omega) hok) ?_
  rintro SB2 g2 w2 ⟨rfl, x, hx, rfl, hk2⟩
  have C2 : Ctx7 (fun _ => False) w2 A n c l := C1.kept hk2 fun b hb => hb.elim
  have hx' := hx
  obtain ⟨z, rfl⟩ := hx'
  refine suf_mb (D := D7 A) (hk1.trans hk2 fun _ _ h => h) (fun b hb => hb.elim) ⟨fun k hk => C2.lt hk, fun k hk => C2.row hk⟩ (fun g hg => .inr hg) C2.gsz hf h0 h1 (fun b hb => .inl hb) ?_ fun t ρ' hH => suf4_bad (opsR_idv t (Rd.mono C2.ops fun k hk => .inl hk) : OpsR (idv (SF lcS) (D7 A) (w2.tp t)) (D7 A) (.slice A n c) l) (knOk_idv t (fun g hg => .inr hg) C2.kn) hx hH
  exact vr_tup (vr_ag3 (.int _ _) (.int _ _) (.slice0 _ _)) (.iface _ (.int _ _))
 refine ⟨1 + 3, first.bind ?_⟩
 rintro SB1 g1 w1 ⟨rfl, hs1, M1, hM1, hk1, ⟨h, _⟩ | ⟨_, ρ, a, hf, h0, h1, rfl⟩⟩
 ·omega
 have C1 : Ctx7 (fun _ => False) w1 A n c l := C.kept hk1 fun b hb => hb.elim
 refine MBX.bind (check7_ok C1 (wkn := 3) (by omega) (by omega) (by omega) (by omega) (by omega) (by omega) (by omega) hok (fun k _ => code_K hok hl k) (fun k _ => ord_K hok hl k) (fun k _ => few_K hok hl k)) ?_
 rintro SB2 g2 w2 ⟨Wg, u, rfl, hwg1, hwg2, rfl, hk2, hout⟩
 have hK2 := hk1.trans hk2 fun _ _ h => h
 have C2 : Ctx7 (fun b => False ∨ b = Wg) w2 A n c l := C1.kept hk2 fun b hb => hb.imp id fun e => by rw [e]; exact ⟨hwg1, hwg2⟩
 have hSB : ∀ b, (False ∨ b = Wg) → W0.heap.size ≤ b ∧ b < w2.heap.size := fun b hb => by
  rcases hb with hb | rfl
  ·exact hb.elim
  ·exact ⟨Nat.le_trans hk1.size hwg1, hwg2⟩
 rcases hout with ⟨k, hk8, hc2, hc1, rfl⟩ | ⟨hone, g, co, cur, e, Cs, es, rfl, hco, hco2, hQ, hg, hrow⟩
 ·exact suf_mb (D := D7 A) hK2 hSB ⟨fun k hk => C2.lt hk, fun k hk => C2.row hk⟩ (fun g hg => .inr hg) C2.gsz hf h0 h1 (fun b hb => .inl hb) (vr_tup (vr_ag3 (.int _ _) (.int _ _) (.slice0 _ _)) .nilIface) fun t ρ' hH =>
   suf4_ok (opsR_idv t (Rd.mono C2.ops fun k hk => .inl hk) : OpsR (idv (SF lcS) (D7 A) (w2.tp t)) (D7 A) (.slice A n c) l) (knOk_idv t (fun g hg => .inr hg) C2.kn) hok hl (.inl rfl) (.inl ⟨k, hk8, rfl, rfl, hc2⟩) hH
 ·have dg : DO A g Cs g := .inr (.inl rfl)
  have dC : ∀ k, k < 8 → ∀ b, (Cs k).map (·.block) = some b → DO A g Cs b := fun k hk b hb => .inr (.inr ⟨k, hk, hb⟩)
  have dq : ∀ b, QB w1 Wg w2 b → RK (fun b => False ∨ b = Wg) w2 b := fun b hb => ⟨hb.2.1, fun h => h.elim id hb.2.2⟩
  have hC : Closed (RK (fun b => False ∨ b = Wg) w2) w2 (DO A g Cs) := by
   refine ⟨fun b hb => ?_, fun b hb => ?_⟩
   ·rcases hb with hb | rfl | ⟨k, hk, hb⟩
    ·exact C2.lt hb
    ·exact dq _ hQ
    ·obtain ⟨x, hx, rfl⟩ := Option.map_eq_some_iff.1 hb
     exact dq _ ((hrow k hk).2.blk hx).1
   ·rcases hb with hb | rfl | ⟨k, hk, hb⟩
    ·exact C2.row hb
    ·exact ⟨_, _, _, hg⟩
    ·obtain ⟨x, hx, rfl⟩ := Option.map_eq_some_iff.1 hb
     obtain ⟨_, _, q1, q2, q3⟩ := (hrow k hk).2.blk hx
     exact ⟨_, _, _, q3⟩
  have hor : ∀ t, Or4 (idv (SF lcS) (DO A g Cs) (w2.tp t)) o l g Cs es := fun t => by
   have cell : ∀ {x : Addr} {v : Value}, DO A g Cs x.block → w2.cell? x = some v → VR (SF lcS) (idr (DO A g Cs) 0) v v → (idv (SF lcS) (DO A g Cs) (w2.tp t)).cell? x = some v := fun hd hc hv => idv_cell (w := w2.tp t) hd hc hv
   refine ⟨fun k hk => ?_, fun k hk => ?_, hone⟩
   ·refine cell dg ?_ (vr_sl0 (dC k hk))
    simp only [World.cell?, hg]
    exact (hrow k hk).1
   ·obtain ⟨A1, c1, e1, g1, g2, g3, g4⟩ := (hrow k hk).2.rd
    injection e1 with e1 e2 e3
    subst e1; subst e3
    refine ⟨_, _, rfl, g1, g2, g3, fun hpos => ?_⟩
    obtain ⟨b, o', hb, hd, hc⟩ := g4 hpos
    refine ⟨b, o', hb, trivial, fun j v hj => cell (dC k hk _ hd) (hc j v hj) ?_⟩
    obtain ⟨i, _, rfl⟩ := List.mem_map.1 (List.mem_of_getElem? hj)
    exact .int _ _
  exact suf_mb (D := DO A g Cs) hK2 hSB hC (fun g hg => .inl (.inr hg)) C2.gsz hf h0 h1 (fun b hb => .inl (.inl hb)) (vr_tup (vr_ag3 (.int _ _) (.int _ _) (vr_sl0 fun b hb => by cases hb; exact dg)) .nilIface) fun t ρ' hH =>
   suf4_ok (opsR_idv t (Rd.mono C2.ops fun k hk => .inl (.inl hk)) : OpsR (idv (SF lcS) (DO A g Cs) (w2.tp t)) (DO A g Cs) (.slice A n c) l) (knOk_idv t (fun g hg => .inl (.inr hg)) C2.kn) hok hl (.inr ⟨g, co, rfl⟩) (.inr ⟨rfl, rfl, g, co, Cs, es, rfl, hor t⟩) hH
theorem law4_run (C : Ctx7 (fun _ => False) W0 A n c l) : ∃ M last o' w' t', runNT Tryd.prog (M + 1) (solo (G (Frame.enter Tryd.prog 4 #[.int .i64 o, .slice A n c] .normal) []) W0) #[] = (.ended o' w', t') ∧ runN Tryd.prog M (solo (G (Frame.enter Tryd.prog 4 #[.int .i64 o, .slice A n c] .normal) []) W0) = .next last ∧ step Tryd.prog last = .ended o' w' ∧ Go.Conc.Good Tryd.prog (PostL W0) last o' w' t' := by
 have hb4 : Tryd.f4.body = some body4 := by
  unfold body4
  cases h : Tryd.f4.body with
  | some c => rfl
  | none => exact absurd (show Tryd.f4.body.isSome = true by kernel_rfl) (by rw [h]; simp)
 rw [enter_at _ Tryd.func4 hb4]
 obtain ⟨z', h⟩ := in4_mb (o := o) C (T := #[.int .i64 o, .slice A n c] ++ Array.replicate (Tryd.f4.ntmps - (#[.int .i64 o, .slice A n c] : Array Value).size) undef) (by rw [ntmps4]; simp) (getD_args _ _) (fun u hu => by
  rcases Array.mem_append.1 hu with h | h
  ·simp only [List.mem_toArray, List.mem_cons, List.not_mem_nil, or_false] at h
   rcases h with rfl | rfl
   ·exact .int _ _
   ·exact vr_sl0 fun b hb => .inl hb
  ·rw [(Array.mem_replicate.1 h).2]; exact VR.undef)
 exact ends_mbx h
end
theorem opsR_own {w : World} {D : Nat → Prop} {A : Option Addr} {n c : Nat} {l : List Op8} (h : OpsR w D (.slice A n c) l) : OpsR w (fun b => A.map (·.block) = some b) (.slice A n c) l := by
 obtain ⟨A', c', h1, h2, h3, h4, h5⟩ := h
 injection h1 with e1 e2 e3
 subst e1
 subst e3
 refine ⟨A, c, by rw [e2], h2, h3, h4, fun hn => ?_⟩
 obtain ⟨b, o, e, _, hc⟩ := h5 hn
 exact ⟨b, o, e, by rw [e]; rfl, hc⟩
theorem glob_rows : ((List.range 4).all fun g => (((begin Tryd.prog (fun _ _ => 0) default).world.heap[g]?).bind Obj.row?).isSome) = true := by kernel_rfl
theorem glob_size : Tryd.prog.globals.size = 4 := by kernel_rfl
theorem ctx7_of {w : World} {base : Nat} {A : Option Addr} {n c : Nat} {l : List Op8} (hS : OpsR w (fun k => k < w.heap.size) (.slice A n c) l) (ho : Value.okWide Tryd.prog w .any base 22 (.slice A n c)) (hsh : w.ShapedOpen Tryd.prog) (hk : KnOk w) : Ctx7 (fun _ => False) w A n c l := by
 have hgl : ∀ g, g < 4 → ∃ cs e f, w.heap[g]? = some (.cells cs e f) := fun g hg => by
  have h1 := List.all_eq_true.1 glob_rows g (List.mem_range.2 hg)
  obtain ⟨⟨zero, t⟩, hz⟩ := Option.isSome_iff_exists.1 h1
  obtain ⟨cs, hc, _⟩ := hsh.1 g zero t (by rw [glob_size]; exact hg) hz
  exact ⟨_, _, _, hc⟩
 refine ⟨opsR_own hS, fun b hb => ?_, hk, hgl, ?_, fun b hb => hb.elim⟩
 ·obtain ⟨a, rfl, rfl⟩ := Option.map_eq_some_iff.1 hb
  simp only [Value.okWide, Cell.okWide, Tryd.underlying22, Cell.ok] at ho
  obtain ⟨_, _, _, _, row, cells, hs, _⟩ := ho
  unfold World.shape? at hs
  split at hs
  ·next c0 e0 f0 hh => exact ⟨_, _, _, hh⟩
  ·cases hs
 ·rw [glob_size]
  obtain ⟨cs, e, f, h3⟩ := hgl 3 (by omega)
  have := (Array.getElem?_eq_some_iff.1 h3).1
  omega
theorem Kept.below {w w1 : World} (h : Kept (fun _ => False) w w1) : Below w.heap.size w w1 := ⟨h.os, h.tape, h.out, h.size, fun k hk => h.blk k hk id⟩
end Go.Proofs.YtkkmokodaejheaaDoor
namespace Go.Proofs.YtkkmokodaejheaaDoor
open Go Go.Conc
set_option linter.unusedVariables false
theorem returnsInLeaving_and {H : Type} {enc : TypeId × Value → H} {a : Assume} {C : Checked} {os : Os} {f : FuncId} {fn : Func} {s : ChangeSpec} {conds : List PathCond} {apart fresh handsOn again : Bool} {X : World → Array Value → Prop}
  (hX : ∀ (w w' : World) (args : Array Value), w.heap = w'.heap → X w args → X w' args)
  (own : ownKnob C.prog.godebug = none) (started : os.Started) (hfn : C.prog.funcs[f]? = some fn)
  (witness : ∃ (w : World) (tape : Tape) (i : Input), w.os = os ∧ (w.forCall tape i).Shaped C.prog ∧ i.vars = [] ∧ Input.okWide C.prog (w.forCall tape i) .any w.heap.size f i ∧
   ((s.pre enc C.prog fn conds apart (w.forCall tape i).memory i.args ∧ X (w.forCall tape i).memory i.args) ∧ sizedMet enc C.prog fn (OpenSpec.ofChange s) apart (w.forCall tape i).memory i.args) ∧ a.holds C.prog (lone (Frame.enter C.prog f i.args .normal) [] (w.forCall tape i)))
  (runs : ∀ (W : World) (base : Nat) (args : Array Value) (ds gs : List (DataW H)) (before : List MemPlace), W.ShapedOpen C.prog →
   (∀ (j : Nat) t v, fn.params[j]? = some t → args[j]? = some v → Value.okWide C.prog W .any base t v) →
   DataW.Whole enc C.prog fn.params.toList s.vars apart W args.toList ds gs before →
   conds.all (PathCond.test C.prog ⟨fn.params.toList, ds, s.plain.varTypes C.prog, gs⟩) = true →
   (DataW.weightsEach C.prog (fn.params.toList ++ s.plain.varTypes C.prog) (ds ++ gs)).all (· ≤ reachBytes) = true → X W args →
   a.holds C.prog (lone (Frame.enter C.prog f args .normal) [] W) →
   ∃ M last o w' t', runNT C.prog (M + 1) (solo (G (Frame.enter C.prog f args .normal) []) W) #[] = (.ended o w', t') ∧ runN C.prog M (solo (G (Frame.enter C.prog f args .normal) []) W) = .next last ∧
    step C.prog last = .ended o w' ∧ Conc.Good C.prog (fun v W' => s.post enc C.prog fn apart fresh handsOn again W args v W') last o w' t') :
  ReturnsInLeavingWide a C os f .any (fun w args => (s.pre enc C.prog fn conds apart w args ∧ X w args) ∧ sizedMet enc C.prog fn (OpenSpec.ofChange s) apart w args) (s.post enc C.prog fn apart fresh handsOn again) := by
 refine returnsInLeavingWide_of_good own started witness ?_
 intro w tape i _ hsh _ hok hpre hholds
 obtain ⟨_, _, _, fn', hfn', _, _, _, _, hval⟩ := hok
 have e : fn' = fn := Option.some.inj (hfn'.symm.trans hfn)
 subst e
 obtain ⟨⟨⟨ds, gs, before, hw, hc⟩, hx⟩, hz⟩ := hpre
 have hw' := DataW.Whole.of_heap (w' := w.forCall tape i) (by rfl) hw
 obtain ⟨M, last, o, w', t', h1, h2, h3, h4⟩ := runs (w.forCall tape i) w.heap.size i.args ds gs before hsh hval hw' hc (hz.weights hw) (hX _ _ _ (by rfl) hx) hholds
 exact ⟨M, last, o, w', t', h1, h2, h3, h4.mono fun v hp => ChangeSpec.post_blind hp⟩
theorem holds_tied_goes (Lk : Looks) {p : Pinned} {s : OpenSpec} {c : OpenClaim} (kinds : List LaidKind) (tests : Bool) (har : Bool × String) (lk : Bool)
  (hc : c.holds p s) (hw : c.wfByText s = true)
  (htie : c.laidByTextAt Lk p kinds tests)
  (hst : c.start = .entering) (hnb : c.noBlocks = false ∧ c.again = false) (hm : p.checked.prog.mainIs = some (har.1, har.2.toList)) (hn : (!har.1 && har.2.isEmpty && !lk) = false)
  (hl : ∀ f fn, p.checked.prog.funcNamed c.func = some f → p.checked.prog.funcs[f]? = some fn → lk = p.checked.prog.looks [] ∧ ∀ (j : Nat) t, fn.params[j]? = some t → p.checked.prog.wantsStandIn t = false)
  (hg : true = c.goesBy p.checked.prog) :
  Claim7.holds p (.plain s) { stood := { row := c, standIns := [], harness := har, looks := lk }, kinds := [], alts := [], goes := true, laidByText := true, laidKinds := kinds, laidTests := tests, laidLooks := Lk } := by
 have h6 : Claim7.isSixth { stood := { row := c, standIns := [], harness := har, looks := lk }, kinds := [] } = false := by simpa [Claim7.isSixth] using hn
 refine ⟨?_, (fun D hD => by cases hD), htie, (fun h => by cases h), hg⟩
 obtain ⟨_, rest⟩ := Claim7.new_of_sixth hc har lk hst hnb hm h6 hl
 exact ⟨hw, rest⟩
end Go.Proofs.YtkkmokodaejheaaDoor
