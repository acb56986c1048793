/- Texts of the proof, merged: Mc11, Mc12, Wga, Wgb, Wgc, Wgl, Rn1, Rn2, Rn3, Rn4. -/
import Derived.Test.YtkkmokodaejheaaDoorPMc10
import Derived.Conc.CrowdRun
import Derived.Conc.WgGenN3
import Derived.Test.YtkkmokodaejheaaDoorProg
import Derived.Conc.WgLib
import Derived.KernelRfl
set_option linter.unusedVariables false
set_option linter.unusedSimpArgs false
set_option linter.unusedSectionVars false
set_option maxRecDepth 100000
namespace Go.Proofs.YtkkmokodaejheaaDoor
open Go Go.Conc
open Go.ConcR (stA smA rd wr KK WgAt Bk g_of_ofEvents ofEvent_mk)
open Go.ConcN (upd upd_same upd_ne sumTo sumTo_upd CTag WD Vc OpenSt AllQuit isOpen isFin isW3 cnt Vc_upd get_map_set get_map_set_same pend bk_cell others_uncounted le_sumTo Vc_le Deaf_still bk_dis bk_en bk_rd bk_rw bk_sem allQuit_of)
theorem UQ {N : Nat} {a b d : Mu} (h : Ka N a b) (hl : b.1 < d.1) : Ka N a d := by
 obtain ⟨a1, a2, a3⟩ := a
 obtain ⟨b1, b2, b3⟩ := b
 obtain ⟨d1, d2, d3⟩ := d
 refine ET ?_
 rcases Prod.lex_def.1 h with h | ⟨h, _⟩ <;> simp only at h hl <;> omega
namespace Cfg
variable {c : Cfg}
variable {w0 w w' : World} {gs gs' : Array Goroutine} {t u : Trace} {j : Nat} {D : Nat → GD} {tag tag' : MT} {M0 : Nat → Prop} {τ0 τ0' : Tr} {d0 : Nat} {a a' : Goroutine} {st sm st' sm' : Int} {H : Cn} {sl : Option (Nat × Nat)} {es : Array Event} {i q : Nat} {g g' : Goroutine}
theorem CL (K : c.Ok) (I : c.BO w0 gs w t j D tag M0 τ0 d0 a st sm H) (hnd : tag ≠ .done) (hnp : ∀ r, tag ≠ .psend r) (hgo : stepG c.P true a w = .go a' w' es) (hsz : Ay M0 w w') (hev0 : ∀ e ∈ es, BZ (grown M0 w.heap.size w'.heap.size) c.A.R e ∨ c.Said e)
  (hms : c.Dc tag (grown M0 w.heap.size w'.heap.size) τ0' d0 a' w') (htr : Tr.lt τ0' τ0) : c.BX w0 gs w sl t j D tag τ0 0 := by
 have hev : ∀ e ∈ es, BZ (grown M0 w.heap.size w'.heap.size) c.A.R e ∨ (0 = 0 ∧ c.Said e) := fun e he => (hev0 e he).imp id fun h => ⟨rfl, h⟩
 have hlow : ∀ b, b < c.A.B0 → w'.heap[b]? = w.heap[b]? := fun b hb => hsz.rest b (fun h => by have := (I.mem0 b h).1; omega) (Nat.lt_of_lt_of_le hb I.hB)
 exact K5 K I hgo (Eff.own K hsz fun b hb => (I.mem0 b hb).1) (let ⟨s, r, tm, h⟩ := I.ch; ⟨s, r, tm, (hlow _ K.area.cB).trans h⟩) (K.csh w w' hsz.size (fun b h _ _ => hlow b h) I.csh) (I.wg.of_block (hlow _ K.area.wB)) (by rw [Mj hev]; exact hms)
  (TI.own K I.ti (.inl rfl) I.hsize hsz.size I.hB I.mem0 hev) (fun b hb => hb) I.mode I.jj I.nx.symm I.fits rfl hnp (fun k a ha => cell_of (hlow _ (K.area.mB k a ha).1)) (fun e => absurd e hnd) (.inr ⟨rfl, htr⟩)
theorem Cj (K : c.Ok) (I : c.BO w0 gs w t j D tag M0 τ0 d0 a st sm H) {M : Nat → Prop} (hM : ∀ b, M b → M0 b) (hgo : stepG c.P true a w = .go a' w' es) (hw : w' = w ∨ ∃ p v, p.block = c.A.Wg ∧ w' = w.setCell p v) (hwg' : WgAt c.ty c.A.Wg w' st' sm') (hbk : ∀ e ∈ es, Bk c.A.Wg e)
  (hms : c.Dc tag' M τ0' (deafBehind d0 es) a' w') (hmode : Go.ConcN.Mode j (fun a => (D a).wd) tag'.ct st' sm') (hst : tag'.started c.N = j) (hnx : tag'.nx c.m = H.nx) (hfit : tag'.fits c.N c.A.z0 c.m) (hopen : tag'.opn = tag.opn) (hps : ∀ r, tag' ≠ .psend r) (hnd : tag' ≠ .done)
  (hlt : tag'.phi c.N c.m (Vc j fun a => (D a).wd) < tag.phi c.N c.m (Vc j fun a => (D a).wd) ∨ (tag'.phi c.N c.m (Vc j fun a => (D a).wd) = tag.phi c.N c.m (Vc j fun a => (D a).wd) ∧ Tr.lt τ0' τ0)) : c.BX w0 gs w sl t j D tag τ0 0 := by
 have hlow : ∀ b, b ≠ c.A.Wg → w'.heap[b]? = w.heap[b]? := by
  rcases hw with rfl | ⟨p, v, hp, rfl⟩
  ·exact fun _ _ => rfl
  ·exact fun b hb => EU K.toOk0 w p v hp b hb
 have hsz : w'.heap.size = w.heap.size := by
  rcases hw with rfl | ⟨p, v, hp, rfl⟩
  ·rfl
  ·simp [World.setCell]
 have heff : c.Eff M0 w w' := by
  rcases hw with rfl | ⟨p, v, hp, rfl⟩
  ·exact .refl _ _
  ·exact .setCell K w p v hp
 exact K5 K I hgo heff (let ⟨s, r, tm, h⟩ := I.ch; ⟨s, r, tm, by rw [hopen]; exact (hlow _ fun e => K.area.wc e.symm).trans h⟩) (K.csh w w' (Nat.le_of_eq hsz.symm) (fun b _ h _ => hlow b h) I.csh) hwg' hms
  (TI.book K I.ti (.inl rfl) (I.grow_same _ hsz) (by simp only [Cn.grow]; rw [hsz]; exact I.hB) hbk) (fun b hb => .inl (hM b hb)) hmode hst hnx hfit hopen hps (fun k a ha => cell_of (hlow _ (K.area.mB k a ha).2.1)) (fun e => absurd e hnd) hlt
theorem BF {Stop : (Nat → Prop) → Goroutine → World → Prop} {M : Nat → Prop} {τ : Tr} (h : c.MT' Stop τ M a w) :
  (τ = .leaf ∧ ∀ w1, c.Rel M w w1 → Stop M a w1) ∨ (∃ f, τ = .node f ∧ a.status = .running ∧ ∃ a' w' es, stepG c.P true a w = .go a' w' es ∧ Ay M w w' ∧ (∀ e ∈ es, BZ (grown M w.heap.size w'.heap.size) c.A.R e ∨ c.Said e) ∧ c.MT' Stop (f w) (grown M w.heap.size w'.heap.size) a' w') := by
 cases τ with
 | leaf => exact .inl ⟨rfl, h⟩
 | node f =>
  obtain ⟨hs, h⟩ := h
  exact .inr ⟨f, rfl, hs, h w (.refl ..)⟩
theorem CU {M : Nat → Prop} : ∀ b, none_ b → M b := fun _ h => h.elim
section
variable (K : c.Ok)
include K
theorem UR (I : c.BO w0 gs w t j D (.sp q 5) M0 τ0 0 a st sm H) (h : c.MT' (c.AtKdS (c.Spawns q)) τ0 M0 a w) : c.BX w0 gs w sl t j D (.sp q 5) τ0 0 := by
 rcases BF h with ⟨rfl, hs⟩ | ⟨f, rfl, _, a', w', es, hgo, hsp, hev, hk⟩
 ·obtain ⟨_, a', hgo, hk⟩ := hs w (.refl ..)
  obtain ⟨τ, hτ⟩ := hk.tree
  exact Cj K I CU hgo (.inl rfl) I.wg bk_dis (tag' := .sp q 4) (.sa1 hτ) (I.mode.reopen trivial trivial rfl (by simp [MT.ct])) I.jj I.nx.symm I.fits rfl (by simp) (by simp) (.inl (by simp only [MT.phi]; omega))
 ·exact CL K I (by simp) (by simp) hgo hsp hev (.skd hk) ⟨_, w, rfl, rfl⟩
theorem UT (I : c.BO w0 gs w t j D (.sp q 4) M0 τ0 1 a st sm H) (h : c.MT' (c.AtA1 (c.Spawns q)) τ0 M0 a w) : c.BX w0 gs w sl t j D (.sp q 4) τ0 0 := by
 rcases BF h with ⟨rfl, hs⟩ | ⟨f, rfl, _, a', w', es, hgo, hsp, hev, hk⟩
 ·obtain ⟨_, hall⟩ := hs w (.refl ..)
  obtain ⟨ho, rfl, rfl, _⟩ := I.mode.open_inv trivial
  have hV := Vc_le j fun a => (D a).wd
  have hjN := I.jN
  have hN := K.N
  have hj := I.jj
  have hf := I.fits
  simp only [MT.started, MT.fits] at hj hf
  obtain ⟨a', hgo, hk⟩ := hall (Vc j fun a => (D a).wd) (by omega) (by simpa [MT.ct, pend] using I.wg)
  obtain ⟨τ, hτ⟩ := hk.tree
  refine Cj K I CU hgo (.inr ⟨_, _, rfl, rfl⟩) (I.wg.setSt _) bk_rw (tag' := .sp q 3) (.ske hτ) ?_ I.jj I.nx.symm I.fits rfl (by simp) (by simp) (.inl (by simp only [MT.phi]; omega))
  have e : (((Vc j fun a => (D a).wd : Nat) : Int) + 1) * KK = (((Vc j fun a => (D a).wd) + pend (MT.sp q 3).ct : Nat) : Int) * KK := by simp [MT.ct, pend]
  rw [e]
  exact .opn trivial ho (by simp [MT.ct])
 ·exact CL K I (by simp) (by simp) hgo hsp hev (.sa1 hk) ⟨_, w, rfl, rfl⟩
theorem UU (I : c.BO w0 gs w t j D (.sp q 3) M0 τ0 1 a st sm H) (h : c.MT' (c.AtKeS (c.Spawns q)) τ0 M0 a w) : c.BX w0 gs w sl t j D (.sp q 3) τ0 0 := by
 rcases BF h with ⟨rfl, hs⟩ | ⟨f, rfl, _, a', w', es, hgo, hsp, hev, hk⟩
 ·obtain ⟨_, a', hgo, hk⟩ := hs w (.refl ..)
  obtain ⟨τ, hτ⟩ := hk.tree
  exact Cj K I CU hgo (.inl rfl) I.wg bk_en (tag' := .sp q 2) (.sgo hτ) (I.mode.reopen trivial trivial rfl (by simp [MT.ct])) I.jj I.nx.symm I.fits rfl (by simp) (by simp) (.inl (by simp only [MT.phi]; omega))
 ·exact CL K I (by simp) (by simp) hgo hsp hev (.ske hk) ⟨_, w, rfl, rfl⟩
theorem Xx (I : c.BO w0 gs w t j D .kd M0 τ0 0 a st sm H) (h : c.MT' c.AtKd τ0 M0 a w) : c.BX w0 gs w sl t j D .kd τ0 0 := by
 rcases BF h with ⟨rfl, hs⟩ | ⟨f, rfl, _, a', w', es, hgo, hsp, hev, hk⟩
 ·obtain ⟨_, a', hgo, hk⟩ := hs w (.refl ..)
  obtain ⟨τ, hτ⟩ := hk.tree
  have hV := Vc_le j fun a => (D a).wd
  have hjN := I.jN
  exact Cj K I CU hgo (.inl rfl) I.wg bk_dis (tag' := .anch) (.anch hτ) (I.mode.reopen trivial trivial rfl (by simp [MT.ct])) I.jj I.nx.symm I.fits rfl (by simp) (by simp) (.inl (by simp only [MT.phi]; omega))
 ·exact CL K I (by simp) (by simp) hgo hsp hev (.kd hk) ⟨_, w, rfl, rfl⟩
theorem Ro (I : c.BO w0 gs w t j D .w1 M0 τ0 1 a st sm H) (h : c.MT' c.AtW1 τ0 M0 a w) : c.BX w0 gs w sl t j D .w1 τ0 0 := by
 rcases BF h with ⟨rfl, hs⟩ | ⟨f, rfl, _, a', w', es, hgo, hsp, hev, hk⟩
 ·obtain ⟨_, hall⟩ := hs w (.refl ..)
  obtain ⟨f, hf⟩ : ∃ f : Nat → WD, f = fun a => (D a).wd := ⟨_, rfl⟩
  have hmode := I.mode
  rw [← hf] at hmode
  obtain ⟨ho, rfl, rfl, _⟩ := hmode.open_inv trivial
  have hV := Vc_le j f
  have hjN := I.jN
  have hN := K.N
  obtain ⟨a', hgo, h0, hne⟩ := hall (Vc j f) (by omega) (by simpa [MT.ct, pend] using I.wg)
  by_cases hv : Vc j f = 0
  ·obtain ⟨τ, hτ⟩ := (h0 hv).tree
   refine Cj K I CU hgo (.inl rfl) I.wg bk_rd (tag' := .ke) (.ke hτ) ?_ I.jj I.nx.symm I.fits rfl (by simp) (by simp) (.inl (by simp only [MT.phi]; omega))
   have e : ((Vc j f + pend MT.w1.ct : Nat) : Int) * KK = 0 := by rw [hv]; simp [MT.ct, pend]
   rw [e, ← hf]
   exact .fin trivial (allQuit_of ho hv)
  ·obtain ⟨τ, hτ⟩ := (hne hv).tree
   refine Cj K I CU hgo (.inl rfl) I.wg bk_rd (tag' := .w2 (Vc j f)) (.w2 hτ) ?_ I.jj I.nx.symm I.fits rfl (by simp) (by simp) (.inl (by rw [← hf]; simp only [MT.phi]; omega))
   rw [← hf]
   exact hmode.reopen trivial trivial rfl (fun vs e => by cases e; omega)
 ·exact CL K I (by simp) (by simp) hgo hsp hev (.w1 hk) ⟨_, w, rfl, rfl⟩
theorem Sj (I : c.BO w0 gs w t j D .anch M0 τ0 1 a st sm H) (h : c.MT' (fun _ => c.Anch) τ0 M0 a w) : c.BX w0 gs w sl t j D .anch τ0 0 := by
 rcases BF h with ⟨rfl, hs⟩ | ⟨f, rfl, _, a', w', es, hgo, hsp, hev, hk⟩
 ·obtain ⟨τ, hτ⟩ := (K.anch a w (hs w (.refl ..))).tree
  have I' : c.BO w0 gs w t j D .w1 none_ τ 1 a st sm H := ⟨I.size, I.ha, .w1 hτ, I.jj, I.fits, I.nx, I.wk, I.old, fun e => by (cases e), fun _ => I.nopark (.inl rfl), I.ch, I.wg, I.mode.reopen trivial trivial rfl (by simp [MT.ct]), I.csh, I.ti, I.hsize, I.hB, I.mem, fun b hb => hb.elim, I.deaf0, I.deafW, I.above, I.rel,
   fun k hk => (I.keys k hk).imp id fun ⟨Dk, h1, h2⟩ => ⟨Dk, h1, fun b hb => ⟨(h2 b hb).1, (h2 b hb).2.1, fun h => h, (h2 b hb).2.2.2⟩⟩, I.busy, I.rw0, fun e => by (cases e)⟩
  obtain ⟨m1, ops, μ', h1, h2, h3⟩ := Ro (sl := sl) K I' hτ
  exact ⟨m1, ops, μ', h1, UQ h2 (by simp only [mu, MT.phi]; omega), h3⟩
 ·exact CL K I (by simp) (by simp) hgo hsp hev (.anch hk) ⟨_, w, rfl, rfl⟩
theorem Xv {vs : Nat} (I : c.BO w0 gs w t j D (.w2 vs) M0 τ0 1 a st sm H) (h : c.MT' (c.AtW2 vs) τ0 M0 a w) : c.BX w0 gs w sl t j D (.w2 vs) τ0 0 := by
 rcases BF h with ⟨rfl, hs⟩ | ⟨f, rfl, _, a', w', es, hgo, hsp, hev, hk⟩
 ·obtain ⟨_, hall⟩ := hs w (.refl ..)
  obtain ⟨f, hf⟩ : ∃ f : Nat → WD, f = fun a => (D a).wd := ⟨_, rfl⟩
  have hmode := I.mode
  rw [← hf] at hmode
  obtain ⟨ho, rfl, rfl, hw2⟩ := hmode.open_inv trivial
  obtain ⟨hle, h1⟩ := hw2 vs rfl
  have hV := Vc_le j f
  have hjN := I.jN
  have hN := K.N
  obtain ⟨hhit, hmiss⟩ := hall (Vc j f) (by omega) (by simpa [MT.ct, pend] using I.wg)
  by_cases e : Vc j f = vs
  ·obtain ⟨a', hgo, hk⟩ := hhit e
   obtain ⟨τ, hτ⟩ := hk.tree
   refine Cj K I CU hgo (.inr ⟨_, _, rfl, rfl⟩) (I.wg.setSt _) bk_rw (tag' := .w3) (.w3 hτ) ?_ I.jj I.nx.symm I.fits rfl (by simp) (by simp) (.inl (by simp only [MT.phi]; omega))
   rw [← hf]
   exact .reg trivial ho (by omega)
  ·obtain ⟨a', hgo, hk⟩ := hmiss e
   obtain ⟨τ, hτ⟩ := hk.tree
   refine Cj K I CU hgo (.inl rfl) I.wg bk_rd (tag' := .anch) (.anch hτ) ?_ I.jj I.nx.symm I.fits rfl (by simp) (by simp) (.inl (by rw [← hf]; simp only [MT.phi]; omega))
   rw [← hf]
   exact hmode.reopen trivial trivial rfl (by simp [MT.ct])
 ·exact CL K I (by simp) (by simp) hgo hsp hev (.w2 hk) ⟨_, w, rfl, rfl⟩
theorem Xu {τ : Tr} (I : c.BO w0 gs w t j D .w3 M0 τ.wrap 1 a st sm H) (h : c.MT' c.AtW3 τ M0 a w) : c.BX w0 gs w sl t j D .w3 τ.wrap 0 := by
 rcases BF h with ⟨rfl, hs⟩ | ⟨f, rfl, _, a', w', es, hgo, hsp, hev, hk⟩
 ·obtain ⟨_, hoff, hblk, htake⟩ := hs w (.refl ..)
  obtain ⟨f, hf⟩ : ∃ f : Nat → WD, f = fun a => (D a).wd := ⟨_, rfl⟩
  have hmode := I.mode
  rw [← hf] at hmode
  have hwg := I.wg
  cases hmode with
  | opn h1 _ _ => exact h1.elim
  | reg h1 h2 h3 =>
   refine Cj K I (M := M0) (fun b hb => hb) (hblk ⟨_, hwg⟩) (.inl rfl) hwg (by simp) (tag' := .blk) (.blk hs) ?_ I.jj I.nx.symm I.fits rfl (by simp) (by simp) (.inr ⟨rfl, ⟨_, w, rfl, rfl⟩⟩)
   rw [← hf]; exact .reg trivial h2 h3
  | last L h1 h2 h3 h4 =>
   refine Cj K I (M := M0) (fun b hb => hb) (hblk ⟨_, hwg⟩) (.inl rfl) hwg (by simp) (tag' := .blk) (.blk hs) ?_ I.jj I.nx.symm I.fits rfl (by simp) (by simp) (.inr ⟨rfl, ⟨_, w, rfl, rfl⟩⟩)
   rw [← hf]; exact .last L trivial h2 h3 h4
  | sema h2 =>
   obtain ⟨a', hgo, hk⟩ := htake hwg
   obtain ⟨τ, hτ⟩ := hk.tree
   refine Cj K I CU hgo (.inr ⟨_, _, rfl, rfl⟩) (hwg.setSm 0) bk_sem (tag' := .w4) (.w4 hτ) ?_ I.jj I.nx.symm I.fits rfl (by simp) (by simp) (.inl (by simp only [MT.phi]; omega))
   rw [← hf]; exact .fin trivial h2
  | fin h1 _ => exact h1.elim
 ·exact CL K I (by simp) (by simp) hgo hsp hev (.w3 hk) ⟨_, w, rfl, rfl⟩
theorem Xt (I : c.BO w0 gs w t j D .w4 M0 τ0 1 a st sm H) (h : c.MT' c.AtW4 τ0 M0 a w) : c.BX w0 gs w sl t j D .w4 τ0 0 := by
 rcases BF h with ⟨rfl, hs⟩ | ⟨f, rfl, _, a', w', es, hgo, hsp, hev, hk⟩
 ·obtain ⟨_, hx⟩ := hs w (.refl ..)
  obtain ⟨hq, rfl, rfl⟩ := I.mode.fin_inv trivial
  obtain ⟨a', hgo, hk⟩ := hx I.wg
  obtain ⟨τ, hτ⟩ := hk.tree
  exact Cj K I CU hgo (.inl rfl) I.wg bk_rd (tag' := .ke) (.ke hτ) (.fin trivial hq) I.jj I.nx.symm I.fits rfl (by simp) (by simp) (.inl (by simp only [MT.phi]; omega))
 ·exact CL K I (by simp) (by simp) hgo hsp hev (.w4 hk) ⟨_, w, rfl, rfl⟩
theorem Xw (I : c.BO w0 gs w t j D .ke M0 τ0 1 a st sm H) (h : c.MT' c.AtKe τ0 M0 a w) : c.BX w0 gs w sl t j D .ke τ0 0 := by
 rcases BF h with ⟨rfl, hs⟩ | ⟨f, rfl, _, a', w', es, hgo, hsp, hev, hk⟩
 ·obtain ⟨_, a', hgo, hk⟩ := hs w (.refl ..)
  obtain ⟨hq, rfl, rfl⟩ := I.mode.fin_inv trivial
  obtain ⟨τ, hτ⟩ := hk.tree
  exact Cj K I CU hgo (.inl rfl) I.wg bk_en (tag' := .acq) (.acq hτ) (.fin trivial hq) I.jj I.nx.symm I.fits rfl (by simp) (by simp) (.inl (by simp only [MT.phi]; omega))
 ·exact CL K I (by simp) (by simp) hgo hsp hev (.ke hk) ⟨_, w, rfl, rfl⟩
theorem UW (I : c.BO w0 gs w t j D .acq M0 τ0 0 a st sm H) (h : c.MT' c.AtAcq τ0 M0 a w) : c.BX w0 gs w sl t j D .acq τ0 0 := by
 rcases BF h with ⟨rfl, hs⟩ | ⟨f, rfl, _, a', w', es, hgo, hsp, hev, hk⟩
 ·obtain ⟨_, a', hgo, hk⟩ := hs w (.refl ..)
  obtain ⟨hq, rfl, rfl⟩ := I.mode.fin_inv trivial
  have e1 : MemOp.ofEvents 0 a.frame.fn a.frame.place #[Go.ConcR.mk (.acquire (stA c.A.Wg))] = #[{ g := 0, fn := a.frame.fn, pos := a.frame.place, act := .mark (.acquire (stA c.A.Wg)) }] := by rw [ofEvents_eq]; simp [ofEvent_mk]
  have hy : (t ++ #[({ g := 0, fn := a.frame.fn, pos := a.frame.place, act := .mark (.acquire (stA c.A.Wg)) } : MemOp)])[t.size]? = some { g := 0, fn := a.frame.fn, pos := a.frame.place, act := .mark (.acquire (stA c.A.Wg)) } := by simp
  refine K5 K I hgo (.refl _ _) I.ch I.csh I.wg (tag' := .done) (M0' := none_) (τ0' := .leaf) (.done hk) ?_ (fun b hb => hb.elim) (.fin trivial hq) I.jj I.nx.symm I.fits rfl (by simp) (fun _ _ _ => rfl) (fun _ => ?_) (.inl (by simp only [MT.phi]; omega))
  ·refine I.ti.app (g := 0) K.area (.inl rfl) (I.grow_same _ rfl) fun op hop => ?_
   rw [e1] at hop
   have : op = { g := 0, fn := a.frame.fn, pos := a.frame.place, act := .mark (.acquire (stA c.A.Wg)) } := by simpa using hop
   subst this
   have hlow : c.A.Wg < w.heap.size := Nat.lt_of_lt_of_le K.area.wB I.hB
   exact ⟨rfl, fun x hx => by (cases hx), hlow, by simp⟩
  ·refine ⟨t.size, by rw [e1, act?_of hy], by rw [e1]; simp [Trace.g?], by rw [e1]; exact ⟨0, by simp [Trace.g?], by rw [deaf_old (Nat.le_refl _)]; exact I.deaf0⟩, fun g hg hgj => ?_⟩
   obtain ⟨i, rfl⟩ : ∃ i, g = i + 1 := ⟨g - 1, by omega⟩
   obtain ⟨r, hr⟩ := I.rel i (by omega) (by omega) (by have : (D i).st.num = 1 := hq i (by omega); omega)
   exact ⟨r, hr.other fun op hop => by rw [g_of_ofEvents op hop]; omega, lt_of_act? hr.rel.act⟩
 ·exact CL K I (by simp) (by simp) hgo hsp hev (.acq hk) ⟨_, w, rfl, rfl⟩
end
end Cfg
end Go.Proofs.YtkkmokodaejheaaDoor
namespace Go.Proofs.YtkkmokodaejheaaDoor
open Go Go.Conc
open Go.ConcR (stA smA rd wr KK WgAt Bk g_of_ofEvents ofEvent_mk)
open Go.ConcN (upd upd_same upd_ne sumTo sumTo_upd sumTo_upd_out CTag WD Vc OpenSt AllQuit isOpen isFin isW3 cnt Vc_upd get_map_set get_map_set_same pend bk_cell others_uncounted le_sumTo Vc_le Deaf_still allQuit_of exists_counted)
set_option linter.unusedVariables false
namespace Cfg
variable {c : Cfg}
variable {w0 w w' : World} {gs gs' : Array Goroutine} {t u : Trace} {j : Nat} {D : Nat → GD} {tag tag' : MT} {M0 : Nat → Prop} {τ0 τ0' : Tr} {d0 : Nat} {a a' : Goroutine} {st sm st' sm' : Int} {H : Cn} {sl : Option (Nat × Nat)} {es : Array Event} {i q : Nat} {g g' : Goroutine}
def Cu (m : Nat) : Nat → MT
 | 0 => match m with
  | 0 => .clos
  | m + 1 => .send m
 | q + 1 => .sp q 5
theorem YM {q : Nat} (h : c.Spawns q g w) : ∃ τ, c.Dc (Cu c.m q) none_ τ 0 g w := by
 cases q with
 | zero =>
  unfold Cu
  have h : c.Sends c.m g w := h
  generalize c.m = m at h
  cases m with
  | zero => obtain ⟨τ, h⟩ := Own.tree h; exact ⟨τ, .clos h⟩
  | succ m => obtain ⟨τ, h⟩ := Own.tree h; exact ⟨τ, .send h⟩
 | succ q => obtain ⟨τ, h⟩ := Own.tree h; exact ⟨τ, .skd h⟩
theorem X6 (K : c.Ok) (I : c.BO w0 gs w t j D (.sp q 2) M0 τ0 0 a st sm H) (h : c.AtGoS (c.Spawns q) M0 a w) : c.BX w0 gs w sl t j D (.sp q 2) τ0 0 := by
 obtain ⟨_, a', child, hsp, hcr, hchild, hnext⟩ := h
 obtain ⟨τ1, hm1⟩ := YM hnext
 obtain ⟨τ2, hw2⟩ := (Own.mono hchild fun M g w h => (.inl h : c.E8 M g w)).tree
 have hrun' := runT_crowd_spawn (P := c.P) (sl := sl) (i := 0) I.ha (show stepG c.P (0 == 0) a w = _ from hsp)
 have hj := I.jj
 have hf := I.fits
 simp only [MT.started, MT.fits] at hj hf
 have hNq : j + 1 = c.N - q := by omega
 rw [I.size] at hrun'
 have e0 : MemOp.ofEvents 0 a.frame.fn a.frame.place #[] = #[] := by simp [ofEvents_eq]
 have e1 : ((MemOp.ofEvents 0 a.frame.fn a.frame.place #[]).push { g := 0, fn := a.frame.fn, pos := a.frame.place, act := .go (j + 1) } |>.push { g := j + 1, fn := child.frame.fn, pos := a.frame.place, act := .start }) =
   #[{ g := 0, fn := a.frame.fn, pos := a.frame.place, act := .go (j + 1) }, { g := j + 1, fn := child.frame.fn, pos := a.frame.place, act := .start }] := by rw [e0]; rfl
 rw [e1] at hrun'
 have hst : ∀ op ∈ (#[{ g := 0, fn := a.frame.fn, pos := a.frame.place, act := .go (j + 1) }, { g := j + 1, fn := child.frame.fn, pos := a.frame.place, act := .start }] : Trace), op.act ≠ .mark .disable ∧ op.act ≠ .mark .enable := by
  intro op hop
  simp only [List.mem_toArray, List.mem_cons, List.not_mem_nil, or_false] at hop
  rcases hop with rfl | rfl <;> exact ⟨by simp, by simp⟩
 have hti := I.ti.fork (x := { g := 0, fn := a.frame.fn, pos := a.frame.place, act := .go (j + 1) }) (y := { g := j + 1, fn := child.frame.fn, pos := a.frame.place, act := .start }) ⟨rfl, rfl⟩ ⟨rfl, rfl⟩ I.deaf0 (I.above _ (Nat.lt_succ_self j))
 obtain ⟨ho, hst', hsm', _⟩ := I.mode.open_inv trivial
 have hwd : (fun a => (upd D j (⟨.take, none_, τ2, 0⟩ : GD) a).wd) = upd (fun a => (D a).wd) j ⟨7, 0, 0⟩ := G8 D j _
 have eV : Vc (j + 1) (upd (fun a => (D a).wd) j ⟨7, 0, 0⟩) = Vc j (fun a => (D a).wd) + 1 := by
  simp only [Vc, sumTo, upd_same]
  rw [sumTo_upd_out (fun a => (D a).wd) _ cnt (Nat.le_refl _)]; rfl
 have eS : sumTo (j + 1) (fun i => (upd D j (⟨.take, none_, τ2, 0⟩ : GD) i).st.wt) = sumTo j (fun i => (D i).st.wt) + 9 := by
  simp only [sumTo, upd_same]
  have := sumTo_upd_out D (⟨.take, none_, τ2, 0⟩ : GD) (fun d => d.st.wt) (Nat.le_refl j)
  rw [this]
  rfl
 have hne : ∀ i, i < j → i ≠ j := fun i hi => by omega
 have hopn : (Cu c.m q).opn = true := by cases q with
  | zero => unfold Cu; generalize c.m = m; cases m <;> rfl
  | succ q => rfl
 have hnotps : ∀ r, Cu c.m q ≠ .psend r := fun r e => by cases q with
  | zero => unfold Cu at e; generalize c.m = m at e; cases m <;> cases e
  | succ q => cases e
 have hisop : isOpen (Cu c.m q).ct ∧ pend (Cu c.m q).ct = 0 ∧ (∀ vs, (Cu c.m q).ct ≠ .w2 vs) := by cases q with
  | zero => unfold Cu; generalize c.m = m; cases m <;> exact ⟨trivial, rfl, by simp [MT.ct]⟩
  | succ q => exact ⟨trivial, rfl, by simp [Cu, MT.ct]⟩
 refine ⟨_, _, c.mu (j + 1) (upd D j ⟨.take, none_, τ2, 0⟩) (Cu c.m q) τ1, hrun', ?_, _, w, sl, j + 1, upd D j ⟨.take, none_, τ2, 0⟩, Cu c.m q, none_, τ1, 0, a', st, sm, H, rfl, ?_, rfl⟩
 ·unfold mu
  refine ET ?_
  rw [eS]
  cases q with
  | zero =>
   unfold Cu
   generalize c.m = m
   cases m <;> simp only [MT.phi] <;> omega
  | succ q => simp only [Cu, MT.phi]; omega
 ·have h0 : ∀ b, b < j + 1 → ((gs.setIfInBounds 0 a').push child)[b]? = (gs.setIfInBounds 0 a')[b]? := fun b hb => by
   rw [Array.getElem?_push_lt (by simp [I.size]; omega), ← Array.getElem?_eq_getElem]
  refine ⟨by simp [I.size], by rw [h0 0 (by omega), Array.getElem?_setIfInBounds_self_of_lt (by rw [I.size]; omega)], hm1, ?_, ?_, ?_, fun i hi => ?_, fun i hi => by rw [upd_ne D _ (by omega)]; exact I.old i hi, fun _ i hz hi => ?_, fun ho' i hi => ?_, by rw [hopn]; exact I.ch, I.wg, ?_, I.csh, hti, I.hsize, I.hB, fun i hi b hb => ?_, fun b hb => hb.elim,
   by rw [Deaf_still t 0 _ hst, I.deaf0], fun i hi => ?_, fun g0 hg0 => by rw [Deaf_still t _ _ hst, I.above g0 (by omega)], fun i hz hi hn => ?_, fun k hk => ?_, fun i hi k hb => ?_, I.rw0, fun e => ?_⟩
  ·cases q with
   | zero => unfold Cu; generalize c.m = m; cases m <;> simp only [MT.started] <;> omega
   | succ q => simp only [Cu, MT.started]; omega
  ·cases q with
   | zero =>
    unfold Cu
    generalize c.m = m
    cases m with
    | zero => trivial
    | succ m => exact Nat.lt_succ_self m
   | succ q => show q + c.A.z0 < c.N; omega
  ·rw [I.nx]
   cases q with
   | zero => unfold Cu; generalize c.m = m; cases m <;> simp only [MT.nx] <;> omega
   | succ q => rfl
  ·rcases Nat.lt_or_ge i j with hlt | hge
   ·obtain ⟨x, hx, hsx⟩ := I.wk i hlt
    exact ⟨x, by rw [h0 (i + 1) (by omega), Array.getElem?_setIfInBounds_ne (by omega)]; exact hx, by rw [upd_ne D _ (by omega)]; exact hsx⟩
   ·obtain rfl : i = j := by omega
    refine ⟨child, ?_, by rw [upd_same]; exact .take hw2⟩
    rw [show i + 1 = (gs.setIfInBounds 0 a').size by simp [I.size], Array.getElem?_push_size]
  ·rcases Nat.lt_or_ge i j with hlt | hge
   ·rw [upd_ne D _ (by omega)]; exact I.opn rfl i hz hlt
   ·obtain rfl : i = j := by omega
    rw [upd_same]; trivial
  ·exfalso
   rcases ho' with h | ⟨r, h⟩
   ·rw [hopn] at h; cases h
   ·exact hnotps r h
  ·rw [hwd, hst', hsm']
   have := Go.ConcN.Mode.opn (j := j + 1) (D := upd (fun a => (D a).wd) j ⟨7, 0, 0⟩) hisop.1 (fun i hi => by
    by_cases e : i = j
    ·subst e; rw [upd_same]; simp
    ·rw [upd_ne _ _ e]; exact ho i (by omega)) (fun vs e => absurd e (hisop.2.2 vs))
   rw [eV, hisop.2.1] at this
   simpa [MT.ct, pend] using this
  ·rcases Nat.lt_or_ge i j with hlt | hge
   ·rw [upd_ne D _ (by omega)] at hb; exact I.mem i hlt b hb
   ·obtain rfl : i = j := by omega
    rw [upd_same] at hb; exact hb.elim
  ·rw [Deaf_still t _ _ hst]
   rcases Nat.lt_or_ge i j with hlt | hge
   ·rw [upd_ne D _ (by omega)]; exact I.deafW i hlt
   ·obtain rfl : i = j := by omega
    rw [upd_same]; exact I.above _ (Nat.lt_succ_self i)
  ·exfalso
   rcases Nat.lt_or_ge i j with hlt | hge
   ·rw [upd_ne D _ (by omega)] at hn
    have := I.opn rfl i hz hlt
    cases hs : (D i).st <;> rw [hs] at hn this <;> simp [WS.num, WS.loops] at hn this
   ·obtain rfl : i = j := by omega
    rw [upd_same] at hn; simp [WS.num] at hn
  ·rw [I.nx] at hk; simp [MT.nx] at hk
  ·rcases Nat.lt_or_ge i j with hlt | hge
   ·rw [upd_ne D _ (by omega)] at hb; exact I.busy i hlt k hb
   ·obtain rfl : i = j := by omega
    rw [upd_same] at hb; cases hb
  ·have := hopn
   rw [e] at this
   cases this
theorem UV (K : c.Ok) (I : c.BO w0 gs w t j D (.sp q 2) M0 τ0 0 a st sm H) (h : c.MT' (c.AtGoS (c.Spawns q)) τ0 M0 a w) : c.BX w0 gs w sl t j D (.sp q 2) τ0 0 := by
 rcases BF h with ⟨rfl, hs⟩ | ⟨f, rfl, _, a', w', es, hgo, hsp, hev, hk⟩
 ·exact X6 K I (hs w (.refl ..))
 ·exact CL K I (by simp) (by simp) hgo hsp hev (.sgo hk) ⟨_, w, rfl, rfl⟩
theorem TD (K : c.Ok) (I : c.BO w0 gs w t j D tag M0 τ0 d0 a st sm H) (hnd : tag ≠ .done) (hrun : a.status = .running) : c.BX w0 gs w sl t j D tag τ0 0 := by
 have hms := I.ms
 cases hms with
 | skd h => exact UR K I h
 | sa1 h => exact UT K I h
 | ske h => exact UU K I h
 | sgo h => exact UV K I h
 | send h =>
  rcases BF h with ⟨rfl, hs⟩ | ⟨f, rfl, _, a', w', es, hgo, hsp, hev, hk⟩
  ·exact UX K I rfl hs
  ·exact CL K I (by simp) (by simp) hgo hsp hev (.send hk) ⟨_, w, rfl, rfl⟩
 | psend h => cases hrun
 | clos h =>
  rcases BF h with ⟨rfl, hs⟩ | ⟨f, rfl, _, a', w', es, hgo, hsp, hev, hk⟩
  ·exact Sk K I rfl (hs w (.refl ..))
  ·exact CL K I (by simp) (by simp) hgo hsp hev (.clos hk) ⟨_, w, rfl, rfl⟩
 | kd h => exact Xx K I h
 | anch h => exact Sj K I h
 | w1 h => exact Ro K I h
 | w2 h => exact Xv K I h
 | w3 h => exact Xu K I h
 | blk h => cases hrun
 | w4 h => exact Xt K I h
 | ke h => exact Xw K I h
 | acq h => exact UW K I h
 | done h => exact absurd rfl hnd
theorem Kq {Stop : (Nat → Prop) → Goroutine → World → Prop} {M : Nat → Prop} {τ : Tr} (h : c.WT' Stop τ M g w) :
  (τ = .leaf ∧ ∀ w1, c.Rel M w w1 → Stop M g w1) ∨ (∃ f, τ = .node f ∧ ∃ g' w' es, stepG c.P false g w = .go g' w' es ∧ Ay M w w' ∧ (∀ e ∈ es, BZ (grown M w.heap.size w'.heap.size) c.A.R e ∨ False) ∧ c.WT' Stop (f w) (grown M w.heap.size w'.heap.size) g' w') := by
 cases τ with
 | leaf => exact .inl ⟨rfl, h⟩
 | node f => exact .inr ⟨f, rfl, h.2 w (.refl ..)⟩
theorem TC (K : c.Ok) (I : c.BO w0 gs w t j D tag M0 τ0 d0 a st sm H) (hnd : tag ≠ .done) (hi : i < j) (hg : gs[i + 1]? = some g) (hrun : g.status = .running) : c.BX w0 gs w sl t j D tag τ0 (i + 1) := by
 obtain ⟨x, hx, hsx⟩ := I.wk i hi
 rw [hg] at hx
 cases hx
 have hz : (D i).st ≠ .quit → c.A.z0 ≤ i := fun h => Nat.le_of_not_lt fun hlt => h (I.old i hlt)
 generalize hd : D i = d at hsx hz
 cases hsx with
 | take h =>
  rcases Kq h with ⟨rfl, hs⟩ | ⟨f, rfl, g', w', es, hgo, hsp, hev, hk⟩
  ·exact SS K I hnd hi (hz (by simp)) hd hg hs
  ·exact Np K I hnd hi (hz (by simp)) hd rfl (by simp) hg hgo hsp hev (.take hk) ⟨_, w, rfl, rfl⟩
 | park h => cases hrun
 | busy h =>
  rcases Kq h with ⟨rfl, hs⟩ | ⟨f, rfl, g', w', es, hgo, hsp, hev, hk⟩
  ·exact RF K I hnd hi (hz (by simp)) hd hg (hs w (.refl ..))
  ·exact Np K I hnd hi (hz (by simp)) hd rfl (by simp) hg hgo hsp hev (.busy hk) ⟨_, w, rfl, rfl⟩
 | r0 h =>
  rcases Kq h with ⟨rfl, hs⟩ | ⟨f, rfl, g', w', es, hgo, hsp, hev, hk⟩
  ·exact Yw K I hnd hi (hz (by simp)) hd hg (hs w (.refl ..))
  ·exact Np K I hnd hi (hz (by simp)) hd rfl (by simp) hg hgo hsp hev (.r0 hk) ⟨_, w, rfl, rfl⟩
 | k1 h => exact Yx K I hnd hi (hz (by simp)) hd hg h
 | d1 h => exact YB K I hnd hi (hz (by simp)) hd hg h
 | d2 h => exact YA K I hnd hi (hz (by simp)) hd hg h
 | d3 h => exact Yz K I hnd hi (hz (by simp)) hd hg h
 | d4 h => exact Yy K I hnd hi (hz (by simp)) hd hg h
 | quit h => exact SV K I hnd hi hd hg hrun h
theorem somebody (K : c.Ok) (I : c.BO w0 gs w t j D tag M0 τ0 d0 a st sm H) (hnd : tag ≠ .done) : ∃ (b : Nat) (g : Goroutine), gs[b]? = some g ∧ g.status = .running := by
 have runs : ∀ i, i < j → (D i).st ≠ .park → (D i).st ≠ .quit → ∃ (b : Nat) (g : Goroutine), gs[b]? = some g ∧ g.status = .running := fun i hi h1 h2 => by
  obtain ⟨x, hx, hsx⟩ := I.wk i hi
  exact ⟨i + 1, x, hx, hsx.running h1 h2⟩
 rcases I.ms.status K hnd with ⟨hs, _⟩ | ⟨_, rfl | ⟨r, rfl⟩⟩
 ·exact ⟨0, a, I.ha, hs⟩
 ·obtain ⟨f, hf⟩ : ∃ f : Nat → WD, f = fun a => (D a).wd := ⟨_, rfl⟩
  have hmode := I.mode
  rw [← hf] at hmode
  have hstage : ∀ i, (f i).stage = (D i).st.num := fun i => by rw [hf]; rfl
  have hq : ∀ i, (D i).st.num ≠ 1 → (D i).st ≠ .quit := fun i h e => h (by rw [e]; rfl)
  cases hmode with
  | opn h1 _ _ => exact h1.elim
  | reg _ _ h3 =>
   obtain ⟨i, hi, h5⟩ := exists_counted h3
   exact runs i hi (I.nopark (.inl rfl) i hi) (hq i (by rw [← hstage]; omega))
  | last L _ h2 h3 _ => exact runs L h2 (I.nopark (.inl rfl) L h2) (hq L (by rw [← hstage]; omega))
  | fin h1 _ => exact h1.elim
 ·have hz := K.z0
  have hj : c.A.z0 < j := by rw [← I.jj]; exact hz
  exact runs c.A.z0 hj (I.nopark (.inr ⟨r, rfl⟩) _ hj) fun e => by
   have := I.opn rfl c.A.z0 (Nat.le_refl _) hj
   rw [e] at this
   exact this
theorem all_awake (K : c.Ok) (I : c.BO w0 gs w t j D tag M0 τ0 d0 a st sm H) (hnd : tag ≠ .done) : ∀ g ∈ gs, awake g := by
 intro g hg
 obtain ⟨b, hb⟩ := Array.mem_iff_getElem?.1 hg
 cases b with
 | zero =>
  rw [I.ha] at hb; cases hb
  rcases I.ms.status K hnd with ⟨hs, _⟩ | ⟨hs, _⟩
  ·exact awake_of (.inl hs)
  ·exact awake_of (.inr (.inl hs))
 | succ i =>
  have hlt : i < j := by have := (Array.getElem?_eq_some_iff.1 hb).1; rw [I.size] at this; omega
  obtain ⟨x, hx, hsx⟩ := I.wk i hlt
  rw [hb] at hx; cases hx
  rcases hsx.status with ⟨h, _⟩ | ⟨h, _⟩ | ⟨h, _⟩
  ·exact awake_of (.inl h)
  ·exact awake_of (.inr (.inr h))
  ·exact awake_of (.inr (.inl h))
theorem BO.at (K : c.Ok) (I : c.BO w0 gs w t j D tag M0 τ0 d0 a st sm H) (d : Nat) : c.BO w0 gs (w.at d) t j D tag M0 τ0 d0 a st sm H := by
 have hr : ∀ M, c.Rel M w (w.at d) := fun M => ⟨Nat.le_refl _, fun _ _ => rfl, rfl, rfl, rfl, fun h => ⟨h.1, h.2.1, K.csh w (w.at d) (Nat.le_refl _) (fun _ _ _ _ => rfl) h.2.2⟩⟩
 exact ⟨I.size, I.ha, I.ms.rely (hr _), I.jj, I.fits, I.nx, fun i hi => let ⟨x, hx, hsx⟩ := I.wk i hi; ⟨x, hx, hsx.rely (hr _)⟩, I.old, I.opn, I.nopark, I.ch, I.wg, I.mode, K.csh w (w.at d) (Nat.le_refl _) (fun _ _ _ _ => rfl) I.csh, I.ti, I.hsize, I.hB, I.mem, I.mem0, I.deaf0, I.deafW, I.above, I.rel,
  fun k hk => (I.keys k hk).imp id fun ⟨Dk, h1, h2⟩ => ⟨Dk, K.res k Dk w (w.at d) (fun _ _ => rfl) (fun _ _ => rfl) h1, h2⟩, I.busy, I.rw0.trans (hr _), I.acq⟩
variable (c) in
def Over (w0 : World) (m : Machine) (t : Trace) : Prop :=
 ∃ (gs : Array Goroutine) (w : World) (sl : Option (Nat × Nat)) (a : Goroutine) (q : Nat → Nat), m = crowd gs w sl ∧ gs.size = c.N + 1 ∧ gs[0]? = some a ∧ c.Tail a ∧ Leavers c.P t gs q ∧
  Past (fun l => c.A.Shun l ∨ ∃ ad, l = .cell ad ∧ ad.block = c.A.Wg) w.heap.size t ∧ (∀ k, k < c.m → ∃ Dk : Nat → Prop, c.Res k Dk w ∧ ∀ b, Dk b → c.A.B0 ≤ b ∧ b < w.heap.size) ∧ c.CSh w ∧ c.Rel none_ w0 w
theorem Xg (K : c.Ok) (I : c.BO w0 gs w t j D .done M0 τ0 d0 a st sm H) : c.Over w0 (crowd gs w sl) t := by
 obtain ⟨hq, rfl, rfl⟩ := I.mode.fin_inv trivial
 have hjN : j = c.N := I.jj.symm
 have hquit : ∀ i, i < j → (D i).st = .quit := fun i hi => by
  have : (D i).st.num = 1 := hq i hi
  cases hs : (D i).st <;> rw [hs] at this <;> simp [WS.num] at this
 have hTail : c.Tail a ∧ d0 = 0 := by
  have hms := I.ms
  cases hms with
  | done h => exact ⟨h, rfl⟩
 have hL : ∀ i, i < j → ∃ g n, gs[i + 1]? = some g ∧ QuitsD c.P n (Deaf t (i + 1)) g := fun i hi => by
  obtain ⟨x, hx, hsx⟩ := I.wk i hi
  have hdf := I.deafW i hi
  have hqi := hquit i hi
  generalize D i = d at hsx hdf hqi
  cases hsx with
  | quit h => exact ⟨x, _, hx, by rw [hdf]; exact h⟩
  | _ => cases hqi
 have hL' : ∀ i, ∃ n, ∀ g, i < j → gs[i + 1]? = some g → QuitsD c.P n (Deaf t (i + 1)) g := fun i => by
  by_cases hi : i < j
  ·obtain ⟨g, n, h1, h2⟩ := hL i hi
   exact ⟨n, fun g' _ h => by rw [h1] at h; cases h; exact h2⟩
  ·exact ⟨0, fun g' h => absurd h hi⟩
 obtain ⟨q, h1, h2, h3, h4⟩ := I.acq rfl
 refine ⟨gs, w, sl, a, fun i => Classical.choose (hL' (i - 1)), rfl, by rw [I.size, hjN], I.ha, hTail.1, ⟨fun i g hi hg => ?_, fun b hb => I.above b (by rw [I.size] at hb; omega)⟩, ?_, fun k hk => ?_, I.csh, I.rw0⟩
 ·obtain ⟨i', rfl⟩ : ∃ i', i = i' + 1 := ⟨i - 1, by omega⟩
  have hlt : i' < j := by have := (Array.getElem?_eq_some_iff.1 hg).1; rw [I.size] at this; omega
  exact Classical.choose_spec (hL' i') g hlt hg
 ·have := I.ti.past h1 h2 h3 (by rw [I.deaf0]; exact hTail.2) h4
  rwa [I.hsize] at this
 ·have hk' : k < H.nx := by rw [I.nx]; exact hk
  rcases I.keys k hk' with ⟨i, hi, hb, _⟩ | ⟨Dk, h, hD⟩
  ·rw [hquit i hi] at hb; cases hb
  ·exact ⟨Dk, h, fun b hb => ⟨(hD b hb).1, (hD b hb).2.1⟩⟩
theorem Qt (K : c.Ok) (μ : Mu) (m : Machine) (t : Trace) (h : c.Kb w0 μ m t) : c.Over w0 m t ∨ ∃ m' ops μ', stepT c.P m = (.next m', ops) ∧ Ka c.N μ' μ ∧ c.Kb w0 μ' m' (t ++ ops) := by
 obtain ⟨gs, w, sl, j, D, tag, M0, τ0, d0, a, st, sm, H, rfl, I, rfl⟩ := h
 by_cases hnd : tag = .done
 ·subst hnd
  exact .inl (Xg K I)
 ·obtain ⟨b, g, d, sl', hg, hrun, hstep⟩ := crowd_pick (P := c.P) (w := w) (sl := sl) (all_awake K I hnd) (somebody K I hnd)
  rw [hstep]
  have I' := I.at K d
  cases b with
  | zero =>
   rw [I.ha] at hg; cases hg
   exact .inr (TD K I' hnd hrun)
  | succ i =>
   have hi : i < j := by have := (Array.getElem?_eq_some_iff.1 hg).1; rw [I.size] at this; omega
   exact .inr (TC K I' hnd hi hg hrun)
theorem phase (K : c.Ok) {q : Nat → Nat} {B : Nat} (hsz : gs.size = c.A.z0 + 1) (h0 : gs[0]? = some a) (hL : Leavers c.P t gs q) (hP : Past c.A.Shun B t) (hT : c.A.T0 = t.size) (hBW : B ≤ c.A.Wg) (hB0 : c.A.B0 ≤ w.heap.size)
  (hwg : WgAt c.ty c.A.Wg w 0 0) (hch : ∃ s r tm, w.heap[c.A.Ch]? = some (.chan 0 #[] false s r tm)) (hcsh : c.CSh w) (hs : c.Spawns (c.N - c.A.z0) a w) : ∃ n m' t', runNT c.P n (crowd gs w sl) t = (.next m', t') ∧ c.Over w m' t' := by
 obtain ⟨r, hr⟩ : ∃ r, c.N - c.A.z0 = r + 1 := ⟨c.N - c.A.z0 - 1, by have := K.z0; omega⟩
 rw [hr] at hs
 obtain ⟨τ, hτ⟩ := Own.tree hs
 have hWgB : c.A.Wg < w.heap.size := Nat.lt_of_lt_of_le K.area.wB hB0
 have hV : Vc c.A.z0 (fun _ => (⟨1, 0, 0⟩ : WD)) = 0 := by
  have : ∀ n, sumTo n (fun _ => cnt (⟨1, 0, 0⟩ : WD)) = 0 := fun n => by
   induction n with
   | zero => rfl
   | succ n ih => simp only [sumTo, ih]; rfl
  exact this _
 have I : c.BO w gs w t c.A.z0 (fun i => ⟨.quit, none_, .chain (q (i + 1)), Deaf t (i + 1)⟩) (.sp r 5) none_ τ 0 a 0 0 ⟨w.heap.size, fun _ => 0, 0, fun _ => 0⟩ := by
  refine ⟨hsz, h0, .skd hτ, by simp only [MT.started]; omega, by simp only [MT.fits]; omega, rfl, fun i hi => ?_, fun _ _ => rfl, fun _ i hz hi => (by omega), fun _ i _ h => (by cases h), hch, hwg, ?_, hcsh, TI.begin hP hT rfl hBW hWgB, rfl, hB0, fun i hi b hb => hb.elim, fun b hb => hb.elim, hP.hears, fun _ _ => rfl, fun g hg => hL.above g (by omega), fun i hz hi => (by omega), fun k hk => (by simp at hk), fun i hi k hb => (by cases hb), .refl .., fun e => (by cases e)⟩
  ·have hlt : i + 1 < gs.size := by omega
   exact ⟨gs[i + 1], Array.getElem?_eq_getElem hlt, .quit (hL.old (i + 1) _ (by omega) (Array.getElem?_eq_getElem hlt))⟩
  ·have := Go.ConcN.Mode.opn (j := c.A.z0) (D := fun _ => (⟨1, 0, 0⟩ : WD)) (tag := (MT.sp r 5).ct) trivial (fun i hi => by simp) (fun vs e => by cases e)
   rw [hV] at this
   have h2 : Go.ConcN.Mode c.A.z0 (fun _ => (⟨1, 0, 0⟩ : WD)) (MT.sp r 5).ct 0 0 := by simpa [MT.ct, pend] using this
   exact h2
 exact NE (Aan c.N) (c.Kb w) (c.Over w) (Qt K) _ _ _ ⟨gs, w, sl, _, _, _, _, _, _, _, _, _, _, rfl, I, rfl⟩
end Cfg
end Go.Proofs.YtkkmokodaejheaaDoor
namespace Go.Proofs.YtkkmokodaejheaaDoor
open Go Go.Conc Go.Conc.Lib Go.ConcR.Gen Go.RowKit
open Go.ConcR (stA smA rd wr KK WgAt Bk DC0)
open Go.ConcN.Gen (WgLive.cell0 WgLive.cell1)
theorem Dn {P : Program} {main : Bool} {R : World → World → Prop} {D D' : World → World → Array Event → Prop} {Stop : Goroutine → World → Prop} (h : ∀ w w' es, D w w' es → D' w w' es) :
  ∀ {n : Nat} {g : Goroutine} {w : World}, Goes P main R D Stop n g w → Goes P main R D' Stop n g w
 | 0, _, _, hg => hg
 | n + 1, g, w, hg => by
  rcases hg with hs | ⟨hr, hst⟩
  ·exact .inl hs
  ·refine .inr ⟨hr, fun w₁ r => ?_⟩
   obtain ⟨g', w', es, e, hd, hn⟩ := goes_elim (hst w₁ r)
   rw [e]
   exact ⟨h _ _ _ hd, Dn h hn⟩
namespace Cfg
variable {c : Cfg}
theorem kn {w w1 : World} (h : c.Sh w) (r : c.Rel none_ w w1) : c.Sh w1 := r.sh h
theorem Jf (K : c.Ok0) {w : World} (h : c.Sh w) {st sm : Int} {p : Addr} {v : Value} (hp : p.block = c.A.Wg) (hw : WgAt c.ty c.A.Wg (w.setCell p v) st sm) : c.Sh (w.setCell p v) :=
 ⟨⟨_, _, hw⟩, let ⟨cl, s, r, tm, hc⟩ := h.2.1; ⟨cl, s, r, tm, (EU K w p v hp _ fun e => K.area.wc e.symm).trans hc⟩, K.csh w _ (by simp [World.setCell]) (fun b _ h _ => EU K w p v hp b h) h.2.2⟩
theorem MP {L : WgLink} (hty : c.ty = L.tWg) {w : World} (h : c.Sh w) : ∃ v, w.cell? ⟨c.A.Wg, 0, none⟩ = some v := Go.ConcN.Gen.WgLive.cell0 h.1
end Cfg
namespace Cfg
variable {c : Cfg} {L : WgLink}
set_option maxHeartbeats 8000000 in
theorem XO (K : c.Ok0) (H : WgLib c.P L) (hty : c.ty = L.tWg) {b₀ : Frame} {a₀ : Act} {ops₀ : Array Oper} {i₀ : Nat} {rest₀ : List Nat} {k₀ : List Item} {cs : List Frame} {qt : Nat}
  (hT : QuitsD c.P qt 0 (G (b₀.at (a₀.put ((ops₀[i₀]?).bind (·.dst)) (.tuple #[])) (.inRegion ops₀ rest₀ :: k₀)) cs)) (w : World) (hK : c.Sh w) :
  Goes c.P false (c.Rel none_) DC0 (c.AtR0 none_) 20 (G ((base L.add).at ⟨(.pointer (some ⟨c.A.Wg, 0, none⟩) :: .int .i64 (-1) :: List.replicate ((addFn L).ntmps - 2) undef).toArray, []⟩ [.code (body_add L)]) (b₀.at a₀ (.inRegion ops₀ (i₀ :: rest₀) :: k₀) :: cs)) w := by
 simp only [addFn, body_add, Option.getD_some, List.replicate]
 lib_facts
 u_c stepG_seq kn hK
 u_cond true kn hK
 u_c stepG_seq kn hK
 u_c stepG_seq kn hK
 u_reg kn hK
 u_op kn hK
 u_op kn hK
 u_c stepG_region_end kn hK
 u_cond true kn hK
 u_reg kn hK
 u_op kn hK
 u_in kn hK
 refine goes_oper_k rfl rfl (by k_ne) (fun Y hY => ?_)
 have hv := run_convert_to_unsafe (P := c.P) H.underlying_tWgP H.underlying_tUP H.room_tWg (MP hty hK).choose_spec
 have he := fun es => events_convert_to_unsafe (P := c.P) H.underlying_tWgP H.underlying_tUP H.room_tWg (MP hty hK).choose_spec es
 go_simp
 refine hY _ _ ⟨?_, ?_⟩
 ·u_none
  intro e1 h1
  have h2 := mem_listed h1
  simp [go_sem, he] at h2
 clear hY Y hv he
 refine Goes.stop (fun w₁ h₁ => ?_)
 replace hK := kn hK h₁
 clear h₁
 refine ⟨rfl, _, stepG_markAt .releaseMerge (by simp) rfl rfl (by k_ne) rfl H.f_relMerge (x_relMerge_n L) (x_relMerge_b L) (x_relMerge_x L) (x_relMerge_f L) (by simp [Act.eval, stA]), 10, ?_⟩
 walk_nrm
 u_c stepG_region_end kn hK
 u_c stepG_seq kn hK
 u_reg kn hK
 refine Goes.stop (fun w₁ h₁ => ?_)
 replace hK := kn hK h₁
 clear h₁
 refine ⟨rfl, _, stepG_mark0 .disable (by simp) rfl rfl (by k_ne) rfl H.f_disable (x_disable_n L) (x_disable_b L) (x_disable_x L) (x_disable_f L), 50, ?_⟩
 walk_nrm
 u_c stepG_region_end kn hK
 u_reg kn hK
 u_defer kn hK
 u_c stepG_region_end kn hK
 u_c stepG_seq kn hK
 u_reg kn hK
 u_op kn hK
 u_c stepG_region_end kn hK
 u_c stepG_seq kn hK
 u_c stepG_seq kn hK
 u_reg kn hK
 u_bub kn hK
 u_c stepG_region_end kn hK
 u_cond false kn hK
 u_c stepG_skip kn hK
 u_c stepG_seq kn hK
 u_reg kn hK
 u_op kn hK
 u_op kn hK
 u_op kn hK
 u_op kn hK
 u_op kn hK
 u_op kn hK
 u_call H.f_uAdd (nm_uAdd L) uAddFn kn hK
 u_c stepG_seq kn hK
 u_reg kn hK
 u_op kn hK
 u_c stepG_region_end kn hK
 u_c stepG_seq kn hK
 u_reg kn hK
 u_op kn hK
 u_op kn hK
 u_op kn hK
 u_op kn hK
 refine Goes.stop (fun w₁ h₁ => ?_)
 replace hK := kn hK h₁
 clear h₁
 refine ⟨rfl, fun v wt hwt hv hw => ?_⟩
 rw [hty] at hw
 have hw64 : IntKind.u64.wrap (((v : Nat) + 1) * KK + wt + 18446744069414584320) = (v : Int) * KK + wt := by
  simp only [IntKind.wrap_u64]; simp only [KK]; omega
 obtain ⟨S, hS⟩ : ∃ S : Int, S = (v : Int) * KK + wt := ⟨_, rfl⟩
 rw [← hS] at hw64 ⊢
 have a1 : S / 4294967296 = (v : Int) := by rw [hS]; simp only [KK]; omega
 have a2 : 0 ≤ S ∧ S < 9223372036854775808 := by rw [hS]; simp only [KK]; omega
 have b1 : bits .and .u64 S 2147483648 = 0 := by rw [hS]; have := Go.ConcN.st_flag v wt (by omega) (by omega); simpa [KK] using this
 have b2 : bits .and .u64 S 2147483647 = (wt : Int) := by rw [hS]; have := Go.ConcN.st_waiters v wt (by omega) (by omega); simpa [KK] using this
 refine ⟨_, (stepG_add_atomic rfl rfl (base_kind _) rfl H.f_addU64 (x_addU64_n L) (x_addU64_b L) (x_addU64_x L) .u64 (x_addU64_f L) rfl rfl hw.cellSt (hw.thaw 0)).trans (by rw [hw64]; rfl), fun hl => ?_, fun hl => ?_⟩
 ·obtain ⟨rfl, rfl⟩ := hl
  obtain rfl : S = 1 := by simpa using hS
  replace hK : c.Sh (w₁.setCell (stA c.A.Wg) (.int .u64 1)) := Jf K hK rfl (by rw [hty]; exact hw.setSt 1)
  clear hw hw64 hS a1 a2 b1 b2
  refine ⟨300, ?_⟩
  walk_nrm
  u_op kn hK
  u_c stepG_region_end kn hK
  u_c stepG_ret' kn hK
  u_leave1 H.f_uAdd kn hK
  u_op kn hK
  u_c stepG_region_end kn hK
  u_c stepG_seq kn hK
  u_c stepG_seq kn hK
  u_reg kn hK
  u_op kn hK
  u_op kn hK
  u_op kn hK
  u_op kn hK
  u_skip kn hK
  u_skip kn hK
  u_op kn hK
  u_c stepG_region_end kn hK
  u_cond false kn hK
  u_c stepG_skip kn hK
  u_c stepG_seq kn hK
  u_reg kn hK
  u_op kn hK
  u_op kn hK
  u_op kn hK
  u_op kn hK
  u_c stepG_region_end kn hK
  u_c stepG_seq kn hK
  u_reg kn hK
  u_op kn hK
  u_op kn hK
  u_op kn hK
  u_op kn hK
  u_c stepG_region_end kn hK
  u_c stepG_seq kn hK
  u_c stepG_seq kn hK
  u_reg kn hK
  u_op kn hK
  u_op kn hK
  u_op kn hK
  u_op kn hK
  u_op kn hK
  u_skip kn hK
  u_skip kn hK
  u_skip kn hK
  u_skip kn hK
  u_op kn hK
  u_c stepG_region_end kn hK
  u_cond false kn hK
  u_c stepG_skip kn hK
  u_c stepG_seq kn hK
  u_c stepG_seq kn hK
  u_reg kn hK
  u_op kn hK
  u_op kn hK
  u_c stepG_region_end kn hK
  u_cond false kn hK
  u_c stepG_skip kn hK
  u_c stepG_seq kn hK
  u_c stepG_seq kn hK
  u_reg kn hK
  u_op kn hK
  u_op kn hK
  u_op kn hK
  u_op kn hK
  u_op kn hK
  u_op kn hK
  u_op kn hK
  u_skip kn hK
  u_skip kn hK
  u_skip kn hK
  u_skip kn hK
  u_op kn hK
  u_c stepG_region_end kn hK
  u_cond false kn hK
  u_c stepG_skip kn hK
  u_c stepG_seq kn hK
  u_c stepG_seq kn hK
  u_reg kn hK
  u_op kn hK
  u_op kn hK
  u_op kn hK
  u_op kn hK
  u_op kn hK
  u_op kn hK
  u_c stepG_region_end kn hK
  u_cond false kn hK
  u_c stepG_skip kn hK
  u_c stepG_seq kn hK
  u_c stepG_seq kn hK
  u_reg kn hK
  u_op kn hK
  u_op kn hK
  u_op kn hK
  u_call H.f_uLoad (nm_uLoad L) uLoadFn kn hK
  u_c stepG_seq kn hK
  u_reg kn hK
  u_op kn hK
  u_c stepG_region_end kn hK
  u_c stepG_seq kn hK
  u_reg kn hK
  u_op kn hK
  u_op kn hK
  u_op kn hK
  refine Goes.stop (fun w₂ h₂ => ?_)
  replace hK := kn hK h₂
  clear h₂
  refine ⟨rfl, fun hw => ?_⟩
  rw [hty] at hw
  refine ⟨_, stepG_load_atomic rfl rfl (base_kind _) rfl H.f_loadU64 (x_loadU64_n L) (x_loadU64_b L) (x_loadU64_x L) .u64 (x_loadU64_f L) rfl hw.cellSt, 300, ?_⟩
  clear hw
  walk_nrm
  u_op kn hK
  u_c stepG_region_end kn hK
  u_c stepG_ret' kn hK
  u_leave1 H.f_uLoad kn hK
  u_op kn hK
  u_op kn hK
  u_c stepG_region_end kn hK
  u_cond false kn hK
  u_c stepG_skip kn hK
  u_c stepG_seq kn hK
  u_reg kn hK
  u_op kn hK
  u_op kn hK
  u_op kn hK
  u_call H.f_uStore (nm_uStore L) uStoreFn kn hK
  u_reg kn hK
  u_op kn hK
  u_op kn hK
  u_op kn hK
  u_op kn hK
  refine Goes.stop (fun w₃ h₃ => ?_)
  replace hK := kn hK h₃
  clear h₃
  refine ⟨rfl, fun hw => ?_⟩
  rw [hty] at hw
  refine ⟨_, stepG_store_atomic rfl rfl (base_kind _) rfl H.f_storeU64 (x_storeU64_n L) (x_storeU64_b L) (x_storeU64_x L) (x_storeU64_f L) rfl rfl hw.cellSt (hw.thaw 0), 300, ?_⟩
  replace hK : c.Sh (w₃.setCell (stA c.A.Wg) (.int .u64 0)) := Jf K hK rfl (by rw [hty]; exact hw.setSt 0)
  clear hw
  walk_nrm
  u_c stepG_region_end kn hK
  u_c stepG_end kn hK
  u_leave0 H.f_uStore kn hK
  u_c stepG_region_end kn hK
  u_c stepG_seq kn hK
  u_c stepG_seq kn hK
  u_reg kn hK
  u_op kn hK
  u_c stepG_region_end kn hK
  u_cond false kn hK
  u_c stepG_skip kn hK
  u_c stepG_block kn hK
  u_c stepG_loop kn hK
  u_c stepG_seq kn hK
  u_c stepG_seq kn hK
  u_reg kn hK
  u_op kn hK
  u_op kn hK
  u_c stepG_region_end kn hK
  u_cond true kn hK
  u_c stepG_skip kn hK
  u_c stepG_seq kn hK
  u_c stepG_block kn hK
  u_reg kn hK
  u_op kn hK
  u_op kn hK
  u_op kn hK
  refine Goes.stop (fun w₄ h₄ => ?_)
  clear h₄ hK
  refine ⟨rfl, mayWake_entry rfl rfl H.f_semrelease (x_semrelease_b L), fun hw => ?_⟩
  rw [hty] at hw
  refine ⟨_, (stepG_semrelease rfl rfl (base_kind _) rfl H.f_semrelease (x_semrelease_n L) (x_semrelease_b L) (x_semrelease_x L) (x_semrelease_f L) (by simp [Act.eval, smA]) hw.cellSm (hw.thaw 1)).trans (by rfl), qt + 19, ?_⟩
  clear hw
  walk_nrm
  q_c stepG_region_end
  q_c stepG_inBlock
  q_reg
  q_vn (.int .u32 1)
  q_vn (.int .u32 0)
  q_vn (.int .u32 0)
  q_c stepG_region_end
  q_c stepG_inLoop
  q_c stepG_seq
  q_c stepG_seq
  q_reg
  q_vn (.int .u32 0)
  q_vn (.bool false)
  q_c stepG_region_end
  q_cond false
  q_exit
  q_c stepG_end
  q_enable
  q_leave0 H.f_add
  exact hT
 ·have hl' : (v = 0 ∧ wt = 0) ∨ (0 < v ∧ wt = 0) ∨ (0 < v ∧ wt = 1) := by omega
  clear hl hw hw64 hS hK
  refine ⟨qt + 89, ?_⟩
  rcases hl' with ⟨hv0, hw0⟩ | ⟨hv0, hw0⟩ | ⟨hv0, hw0⟩
  ·walk_nrm
   q_vn (.int .u64 S)
   q_c stepG_region_end
   q_c stepG_ret'
   q_leave1 H.f_uAdd
   q_vn (.int .u64 S)
   q_c stepG_region_end
   q_c stepG_seq
   q_c stepG_seq
   q_reg
   q_vn (.int .u64 S)
   q_vn (.int .u64 0)
   q_vn (.bool false)
   q_vn (.bool false)
   q_skip
   q_skip
   q_vn (.bool false)
   q_c stepG_region_end
   q_cond false
   q_c stepG_skip
   q_c stepG_seq
   q_reg
   q_vn (.int .u64 S)
   q_vn (.int .u64 (v : Int))
   q_vn (.int .i32 (v : Int))
   q_vn (.int .i32 (v : Int))
   q_c stepG_region_end
   q_c stepG_seq
   q_reg
   q_vn (.int .u64 S)
   q_vn (.int .u64 (wt : Int))
   q_vn (.int .u32 (wt : Int))
   q_vn (.int .u32 (wt : Int))
   q_c stepG_region_end
   q_c stepG_seq
   q_c stepG_seq
   q_reg
   q_vn (.bool true)
   q_vn (.int .i64 (-1))
   q_vn (.bool false)
   q_vn (.bool false)
   q_vn (.bool false)
   q_skip
   q_skip
   q_skip
   q_skip
   q_vn (.bool false)
   q_c stepG_region_end
   q_cond false
   q_c stepG_skip
   q_c stepG_seq
   q_c stepG_seq
   q_reg
   q_vn (.int .i32 (v : Int))
   q_vn (.bool false)
   q_c stepG_region_end
   q_cond false
   q_c stepG_skip
   q_c stepG_seq
   q_c stepG_seq
   q_reg
   q_vn (.int .u32 (wt : Int))
   q_vn (.bool false)
   q_vn (.bool false)
   q_skip
   q_skip
   q_vn (.bool false)
   q_vn (.bool false)
   q_skip
   q_skip
   q_skip
   q_skip
   q_vn (.bool false)
   q_c stepG_region_end
   q_cond false
   q_c stepG_skip
   q_c stepG_seq
   q_c stepG_seq
   q_reg
   q_vn (.int .i32 (v : Int))
   q_vn (.bool false)
   q_vn (.bool false)
   q_vn (.int .u32 (wt : Int))
   q_vn (.bool true)
   q_vn (.bool true)
   q_c stepG_region_end
   q_cond true
   q_c stepG_ret'
   q_enable
   q_leave0 H.f_add
   exact hT
  ·walk_nrm
   q_vn (.int .u64 S)
   q_c stepG_region_end
   q_c stepG_ret'
   q_leave1 H.f_uAdd
   q_vn (.int .u64 S)
   q_c stepG_region_end
   q_c stepG_seq
   q_c stepG_seq
   q_reg
   q_vn (.int .u64 S)
   q_vn (.int .u64 0)
   q_vn (.bool false)
   q_vn (.bool false)
   q_skip
   q_skip
   q_vn (.bool false)
   q_c stepG_region_end
   q_cond false
   q_c stepG_skip
   q_c stepG_seq
   q_reg
   q_vn (.int .u64 S)
   q_vn (.int .u64 (v : Int))
   q_vn (.int .i32 (v : Int))
   q_vn (.int .i32 (v : Int))
   q_c stepG_region_end
   q_c stepG_seq
   q_reg
   q_vn (.int .u64 S)
   q_vn (.int .u64 (wt : Int))
   q_vn (.int .u32 (wt : Int))
   q_vn (.int .u32 (wt : Int))
   q_c stepG_region_end
   q_c stepG_seq
   q_c stepG_seq
   q_reg
   q_vn (.bool true)
   q_vn (.int .i64 (-1))
   q_vn (.bool false)
   q_vn (.bool false)
   q_vn (.bool false)
   q_skip
   q_skip
   q_skip
   q_skip
   q_vn (.bool false)
   q_c stepG_region_end
   q_cond false
   q_c stepG_skip
   q_c stepG_seq
   q_c stepG_seq
   q_reg
   q_vn (.int .i32 (v : Int))
   q_vn (.bool false)
   q_c stepG_region_end
   q_cond false
   q_c stepG_skip
   q_c stepG_seq
   q_c stepG_seq
   q_reg
   q_vn (.int .u32 (wt : Int))
   q_vn (.bool false)
   q_vn (.bool false)
   q_skip
   q_skip
   q_vn (.bool false)
   q_vn (.bool false)
   q_skip
   q_skip
   q_skip
   q_skip
   q_vn (.bool false)
   q_c stepG_region_end
   q_cond false
   q_c stepG_skip
   q_c stepG_seq
   q_c stepG_seq
   q_reg
   q_vn (.int .i32 (v : Int))
   q_vn (.bool true)
   q_vn (.bool true)
   q_skip
   q_skip
   q_vn (.bool true)
   q_c stepG_region_end
   q_cond true
   q_c stepG_ret'
   q_enable
   q_leave0 H.f_add
   exact hT
  ·walk_nrm
   q_vn (.int .u64 S)
   q_c stepG_region_end
   q_c stepG_ret'
   q_leave1 H.f_uAdd
   q_vn (.int .u64 S)
   q_c stepG_region_end
   q_c stepG_seq
   q_c stepG_seq
   q_reg
   q_vn (.int .u64 S)
   q_vn (.int .u64 0)
   q_vn (.bool false)
   q_vn (.bool false)
   q_skip
   q_skip
   q_vn (.bool false)
   q_c stepG_region_end
   q_cond false
   q_c stepG_skip
   q_c stepG_seq
   q_reg
   q_vn (.int .u64 S)
   q_vn (.int .u64 (v : Int))
   q_vn (.int .i32 (v : Int))
   q_vn (.int .i32 (v : Int))
   q_c stepG_region_end
   q_c stepG_seq
   q_reg
   q_vn (.int .u64 S)
   q_vn (.int .u64 (wt : Int))
   q_vn (.int .u32 (wt : Int))
   q_vn (.int .u32 (wt : Int))
   q_c stepG_region_end
   q_c stepG_seq
   q_c stepG_seq
   q_reg
   q_vn (.bool true)
   q_vn (.int .i64 (-1))
   q_vn (.bool false)
   q_vn (.bool false)
   q_vn (.bool false)
   q_skip
   q_skip
   q_skip
   q_skip
   q_vn (.bool false)
   q_c stepG_region_end
   q_cond false
   q_c stepG_skip
   q_c stepG_seq
   q_c stepG_seq
   q_reg
   q_vn (.int .i32 (v : Int))
   q_vn (.bool false)
   q_c stepG_region_end
   q_cond false
   q_c stepG_skip
   q_c stepG_seq
   q_c stepG_seq
   q_reg
   q_vn (.int .u32 (wt : Int))
   q_vn (.bool true)
   q_vn (.bool true)
   q_vn (.int .i64 (-1))
   q_vn (.bool false)
   q_vn (.bool false)
   q_vn (.bool false)
   q_skip
   q_skip
   q_skip
   q_skip
   q_vn (.bool false)
   q_c stepG_region_end
   q_cond false
   q_c stepG_skip
   q_c stepG_seq
   q_c stepG_seq
   q_reg
   q_vn (.int .i32 (v : Int))
   q_vn (.bool true)
   q_vn (.bool true)
   q_skip
   q_skip
   q_vn (.bool true)
   q_c stepG_region_end
   q_cond true
   q_c stepG_ret'
   q_enable
   q_leave0 H.f_add
   exact hT
set_option maxHeartbeats 8000000 in
theorem Sw (K : c.Ok0) (H : WgLib c.P L) (hty : c.ty = L.tWg) {cf : Frame} {cs : List Frame} {qt : Nat} (hcm : cf.mode = .returning) (hT : QuitsD c.P qt 0 (G cf cs)) (w : World) (hK : c.Sh w) :
  Goes c.P false (c.Rel none_) DC0 (c.AtR0 none_) 23 (G ((baseD L.done).at ⟨#[.pointer (some ⟨c.A.Wg, 0, none⟩), undef, undef, undef], []⟩ [.code (body_done L)]) (cf :: cs)) w := by
 lib_facts
 have hA := @XO c L K H hty
 simp only [body_done, doneFn, addFn, body_add, Option.getD_some, List.replicate] at hA ⊢
 u_reg kn hK
 u_op kn hK
 u_in kn hK
 refine goes_call rfl rfl (by k_ne) rfl H.f_add (nm_add L) rfl ⟨by u_nil, ?_⟩
 walk_nrmf addFn
 refine hA (qt := qt + 3) ?_ _ hK
 q_c stepG_region_end
 q_c stepG_end
 exact QuitsD.leaveD rfl rfl H.f_done rfl hcm hT
end Cfg
end Go.Proofs.YtkkmokodaejheaaDoor
namespace Go.Proofs.YtkkmokodaejheaaDoor
open Go Go.Conc Go.Conc.Lib Go.ConcR.Gen Go.RowKit
open Go.ConcR (stA smA rd wr KK WgAt Bk DC0)
set_option linter.unusedVariables false
set_option maxRecDepth 100000
namespace Cfg
variable {c : Cfg}
theorem Rp {L : WgLink} (hty : c.ty = L.tWg) {w : World} (h : c.Sh w) : ∃ v, w.cell? ⟨c.A.Wg, 1, none⟩ = some v := Go.ConcN.Gen.WgLive.cell1 h.1
theorem OO {P : Program} {main : Bool} {R : Nat → Prop} {Sh : World → Prop} {X : Event → Prop} {St : (Nat → Prop) → Goroutine → World → Prop} {M : Nat → Prop} {Rl : World → World → Prop} (hrl : ∀ w w1, BS M R Sh w w1 → Rl w w1) : ∀ {n : Nat} {g : Goroutine} {w : World}, Goes P main Rl DC0 (fun g w => Own P main R Sh X St M g w) n g w → Own P main R Sh X St M g w
 | 0, g, w, h => h w (hrl _ _ (BS.refl _ _ _ _))
 | n + 1, g, w, h => by
  rcases h with h | ⟨hs, h⟩
  ·exact h w (hrl _ _ (BS.refl _ _ _ _))
  ·refine Own.mk hs fun w1 hr => ?_
   have := h w1 (hrl _ _ hr)
   cases hg : stepG P main g w1 with
   | go g' w' es =>
    rw [hg, goes_go] at this
    obtain ⟨⟨e1, e2⟩, hn⟩ := this
    subst e1
    subst e2
    exact ⟨g', _, _, rfl, Ay.refl _ _, fun e he => by simp at he, by rw [BU]; exact OO hrl hn⟩
   | _ => rw [hg] at this; exact this.elim
theorem Rn {Stop : (Nat → Prop) → Goroutine → World → Prop} {n : Nat} {g : Goroutine} {w : World} (h : Goes c.P true (c.Rel none_) DC0 (fun g w => c.MO Stop g w) n g w) : c.MO Stop g w := OO (fun w w1 h => h) h
theorem Cv {S : Goroutine → World → Prop} {n : Nat} {g : Goroutine} {w : World} (h : Goes c.P true (c.Rel none_) DC0 S n g w) : c.MO (fun _ => S) g w :=
 Gf (E := c.Said) (fun e h M => .inr h) (fun M w w1 h => Df h) (Dn (fun _ _ _ h => ⟨h.1, fun e he => by rw [h.2] at he; simp at he⟩) h)
theorem Rm {Stop : (Nat → Prop) → Goroutine → World → Prop} {g g' : Goroutine} {w : World} {e : Event} (hs : g.status = .running) (h : ∀ w1, stepG c.P true g w1 = .go g' w1 #[e]) (he : c.Said e) (h' : ∀ w1, c.Rel none_ w w1 → c.MO Stop g' w1) : c.MO Stop g w :=
 Own.mk hs fun w1 hr => ⟨g', w1, #[e], h w1, Ay.refl _ _, fun e1 h1 => by rw [Array.mem_singleton] at h1; subst h1; exact .inr he, by rw [BU]; exact h' w1 hr⟩
theorem Xr {Stop : (Nat → Prop) → Goroutine → World → Prop} {g g' : Goroutine} {w : World} (hs : g.status = .running) (h : ∀ w1, stepG c.P true g w1 = .go g' w1) (h' : ∀ w1, c.Rel none_ w w1 → c.MO Stop g' w1) : c.MO Stop g w := Own.move hs h h'
end Cfg
namespace Cfg
variable {c : Cfg} {L : WgLink} {Next : Goroutine → World → Prop}
set_option maxHeartbeats 8000000 in
theorem XN (K : c.Ok0) (H : WgLib c.P L) (hty : c.ty = L.tWg) {b₀ : Frame} {a₀ : Act} {ops₀ : Array Oper} {i₀ : Nat} {rest₀ : List Nat} {k₀ : List Item} {cs : List Frame}
  (hT : ∀ w, c.Sh w → c.MO (c.AtGoS Next) (G (b₀.at (a₀.put ((ops₀[i₀]?).bind (·.dst)) (.tuple #[])) (.inRegion ops₀ rest₀ :: k₀)) cs) w) (w : World) (hK : c.Sh w) :
  Goes c.P true (c.Rel none_) DC0 (c.AtKdS Next none_) 20 (G ((base L.add).at ⟨(.pointer (some ⟨c.A.Wg, 0, none⟩) :: .int .i64 1 :: List.replicate ((addFn L).ntmps - 2) undef).toArray, []⟩ [.code (body_add L)]) (b₀.at a₀ (.inRegion ops₀ (i₀ :: rest₀) :: k₀) :: cs)) w := by
 simp only [addFn, body_add, Option.getD_some, List.replicate]
 lib_facts
 u_c stepG_seq kn hK
 u_cond true kn hK
 u_c stepG_seq kn hK
 u_c stepG_seq kn hK
 u_reg kn hK
 u_op kn hK
 u_op kn hK
 u_c stepG_region_end kn hK
 u_cond false kn hK
 u_c stepG_skip kn hK
 u_c stepG_seq kn hK
 u_reg kn hK
 refine Goes.stop (fun w₁ h₁ => ?_)
 replace hK := kn hK h₁
 clear h₁
 refine ⟨rfl, _, stepG_mark0 .disable (by simp) rfl rfl (by k_ne) rfl H.f_disable (x_disable_n L) (x_disable_b L) (x_disable_x L) (x_disable_f L), Cv (n := 50) ?_⟩
 walk_nrm
 u_c stepG_region_end kn hK
 u_reg kn hK
 u_defer kn hK
 u_c stepG_region_end kn hK
 u_c stepG_seq kn hK
 u_reg kn hK
 u_op kn hK
 u_c stepG_region_end kn hK
 u_c stepG_seq kn hK
 u_c stepG_seq kn hK
 u_reg kn hK
 u_bub kn hK
 u_c stepG_region_end kn hK
 u_cond false kn hK
 u_c stepG_skip kn hK
 u_c stepG_seq kn hK
 u_reg kn hK
 u_op kn hK
 u_op kn hK
 u_op kn hK
 u_op kn hK
 u_op kn hK
 u_op kn hK
 u_call H.f_uAdd (nm_uAdd L) uAddFn kn hK
 u_c stepG_seq kn hK
 u_reg kn hK
 u_op kn hK
 u_c stepG_region_end kn hK
 u_c stepG_seq kn hK
 u_reg kn hK
 u_op kn hK
 u_op kn hK
 u_op kn hK
 u_op kn hK
 refine Goes.stop (fun w₂ h₂ => ?_)
 replace hK := kn hK h₂
 clear h₂
 refine ⟨rfl, fun v hv hw => ?_⟩
 rw [hty] at hw
 have fin : ∀ {T : Array Value} {todo : List Item} (w3 : World), c.Sh w3 → c.AtKeS Next none_ (G { ((base L.add).at ⟨T, [dcall L.enable #[]]⟩ todo) with mode := .returning } (b₀.at a₀ (.inRegion ops₀ (i₀ :: rest₀) :: k₀) :: cs)) w3 := fun {T todo} w3 h3 => by
  refine ⟨rfl, _, stepG_unwind_entry (v := .tuple #[]) (evs := #[Go.ConcR.mk .enable]) rfl H.f_enable (x_enable_n L) (x_enable_b L) (x_enable_x L) (x_enable_f L) (by simp [Extern.Race.none_]) (by simp [Go.ConcR.mk]) (by simp [Go.ConcR.mk]), ?_⟩
  refine Xr rfl (fun w4 => ?_) fun w4 h4 => hT w4 (kn h3 h4)
  rw [stepG_leave rfl rfl H.f_add (results_none rfl _ _ _) (events_results_none rfl _ _), Frame.finish_at]
 rcases Nat.eq_zero_or_pos v with rfl | hvp
 ·replace hw : WgAt L.tWg c.A.Wg w₂ 0 0 := by simpa using hw
  have z : (((0 : Nat) : Int) + 1) * KK = KK := by simp
  rw [z]
  have e0 : IntKind.u64.wrap (0 + 4294967296) = KK := by decide
  refine ⟨_, (stepG_add_atomic rfl rfl (base_kind _) rfl H.f_addU64 (x_addU64_n L) (x_addU64_b L) (x_addU64_x L) .u64 (x_addU64_f L) rfl rfl hw.cellSt (hw.thaw 0)).trans (by rw [e0]; rfl), Rn (n := 150) ?_⟩
  replace hK : c.Sh (w₂.setCell (stA c.A.Wg) (.int .u64 KK)) := Jf K hK rfl (by rw [hty]; exact hw.setSt _)
  clear hw
  simp only [KK] at hK ⊢
  walk_nrm
  u_op kn hK
  u_c stepG_region_end kn hK
  u_c stepG_ret' kn hK
  u_leave1 H.f_uAdd kn hK
  u_op kn hK
  u_c stepG_region_end kn hK
  u_c stepG_seq kn hK
  u_c stepG_seq kn hK
  u_reg kn hK
  u_op kn hK
  u_op kn hK
  u_op kn hK
  u_op kn hK
  u_skip kn hK
  u_skip kn hK
  u_op kn hK
  u_c stepG_region_end kn hK
  u_cond false kn hK
  u_c stepG_skip kn hK
  u_c stepG_seq kn hK
  u_reg kn hK
  u_op kn hK
  u_op kn hK
  u_op kn hK
  u_op kn hK
  u_c stepG_region_end kn hK
  u_c stepG_seq kn hK
  u_reg kn hK
  u_op kn hK
  u_op kn hK
  u_op kn hK
  u_op kn hK
  u_c stepG_region_end kn hK
  u_c stepG_seq kn hK
  u_c stepG_seq kn hK
  u_reg kn hK
  u_op kn hK
  u_op kn hK
  u_op kn hK
  u_op kn hK
  u_op kn hK
  u_op kn hK
  u_op kn hK
  u_op kn hK
  u_op kn hK
  u_op kn hK
  u_c stepG_region_end kn hK
  u_cond true kn hK
  u_reg kn hK
  u_op kn hK
  u_op kn hK
  u_op kn hK
  u_in kn hK
  refine goes_oper_k rfl rfl (by k_ne) (fun Y hY => ?_)
  have hv := run_convert_to_unsafe (P := c.P) H.underlying_tPU32 H.underlying_tUP H.room_tU32 (Rp hty hK).choose_spec
  have he := fun es => events_convert_to_unsafe (P := c.P) H.underlying_tPU32 H.underlying_tUP H.room_tU32 (Rp hty hK).choose_spec es
  go_simp
  refine hY _ _ ⟨?_, ?_⟩
  ·u_none
   intro e1 h1
   have h2 := mem_listed h1
   simp [go_sem, he] at h2
  clear hY Y hv he
  refine Goes.stop (fun w₁ h₁ => ?_)
  replace hK := kn hK h₁
  clear h₁
  refine Rm rfl (fun w1 => stepG_markAt .read (by simp) rfl rfl (by k_ne) rfl H.f_raceRead (x_raceRead_n L) (x_raceRead_b L) (x_raceRead_x L) (x_raceRead_f L) (ad := ⟨c.A.Wg, 1, none⟩) (by simp [Act.eval])) ⟨⟨c.A.Wg, 1, none⟩, rfl, .inl rfl⟩ fun w₁ h₁ => ?_
  replace hK := kn hK h₁
  clear h₁
  refine Cv (n := 90) ?_
  walk_nrm
  u_c stepG_region_end kn hK
  u_c stepG_seq kn hK
  u_c stepG_seq kn hK
  u_reg kn hK
  u_op kn hK
  u_op kn hK
  u_c stepG_region_end kn hK
  u_cond false kn hK
  u_c stepG_skip kn hK
  u_c stepG_seq kn hK
  u_c stepG_seq kn hK
  u_reg kn hK
  u_op kn hK
  u_op kn hK
  u_op kn hK
  u_skip kn hK
  u_skip kn hK
  u_op kn hK
  u_op kn hK
  u_skip kn hK
  u_skip kn hK
  u_skip kn hK
  u_skip kn hK
  u_op kn hK
  u_c stepG_region_end kn hK
  u_cond false kn hK
  u_c stepG_skip kn hK
  u_c stepG_seq kn hK
  u_c stepG_seq kn hK
  u_reg kn hK
  u_op kn hK
  u_op kn hK
  u_op kn hK
  u_skip kn hK
  u_skip kn hK
  u_op kn hK
  u_c stepG_region_end kn hK
  u_cond true kn hK
  u_c stepG_ret' kn hK
  exact Goes.stop fun w₃ h₃ => fin w₃ (kn hK h₃)
 ·obtain ⟨V, hV⟩ : ∃ V : Int, V = (v : Int) + 1 := ⟨_, rfl⟩
  obtain ⟨S, hS⟩ : ∃ S : Int, S = V * KK := ⟨_, rfl⟩
  have eS : IntKind.u64.wrap ((v : Int) * KK + 4294967296) = S := by rw [IntKind.wrap_u64, hS, hV]; simp only [KK]; omega
  rw [← hV, ← hS]
  have a1 : S / 4294967296 = V := by rw [hS]; simp only [KK]; omega
  have b1 : bits .and .u64 S 2147483648 = 0 := by rw [hS, hV]; have := Go.ConcN.st_flag (v + 1) 0 (by omega) (by omega); simpa [KK] using this
  have b2 : bits .and .u64 S 2147483647 = 0 := by rw [hS, hV]; have := Go.ConcN.st_waiters (v + 1) 0 (by omega) (by omega); simpa [KK] using this
  have c1 : IntKind.i32.wrap V = V := by rw [IntKind.wrap_i32]; omega
  have hV1 : 1 < V := by omega
  have hV2 : V < 2147483648 := by omega
  have q1 : (V == 1) = false := by simp; omega
  have q2 : decide (V = 1) = false := decide_eq_false (by omega)
  have q3 : decide (V < 0) = false := decide_eq_false (by omega)
  have q4 : decide (0 < V) = true := decide_eq_true (by omega)
  have q5 : (V == 0) = false := by simp; omega
  have q6 : decide (V = 0) = false := decide_eq_false (by omega)
  refine ⟨_, (stepG_add_atomic rfl rfl (base_kind _) rfl H.f_addU64 (x_addU64_n L) (x_addU64_b L) (x_addU64_x L) .u64 (x_addU64_f L) rfl rfl hw.cellSt (hw.thaw 0)).trans (by rw [eS]; rfl), Cv (n := 150) ?_⟩
  replace hK : c.Sh (w₂.setCell (stA c.A.Wg) (.int .u64 S)) := Jf K hK rfl (by rw [hty]; exact hw.setSt _)
  clear hw hS hV eS
  walk_nrm
  u_op kn hK
  u_c stepG_region_end kn hK
  u_c stepG_ret' kn hK
  u_leave1 H.f_uAdd kn hK
  u_op kn hK
  u_c stepG_region_end kn hK
  u_c stepG_seq kn hK
  u_c stepG_seq kn hK
  u_reg kn hK
  u_op kn hK
  u_op kn hK
  u_op kn hK
  u_op kn hK
  u_skip kn hK
  u_skip kn hK
  u_op kn hK
  u_c stepG_region_end kn hK
  u_cnd false kn hK
  u_c stepG_skip kn hK
  u_c stepG_seq kn hK
  u_reg kn hK
  u_op kn hK
  u_op kn hK
  u_op kn hK
  u_op kn hK
  u_c stepG_region_end kn hK
  u_c stepG_seq kn hK
  u_reg kn hK
  u_op kn hK
  u_op kn hK
  u_op kn hK
  u_op kn hK
  u_c stepG_region_end kn hK
  u_c stepG_seq kn hK
  u_c stepG_seq kn hK
  u_reg kn hK
  u_op kn hK
  u_op kn hK
  u_op kn hK
  u_op kn hK
  u_op kn hK
  u_op kn hK
  u_op kn hK
  u_op kn hK
  u_op kn hK
  u_op kn hK
  u_c stepG_region_end kn hK
  u_cnd false kn hK
  u_c stepG_skip kn hK
  u_c stepG_seq kn hK
  u_c stepG_seq kn hK
  u_reg kn hK
  u_op kn hK
  u_op kn hK
  u_c stepG_region_end kn hK
  u_cnd false kn hK
  u_c stepG_skip kn hK
  u_c stepG_seq kn hK
  u_c stepG_seq kn hK
  u_reg kn hK
  u_op kn hK
  u_op kn hK
  u_op kn hK
  u_skip kn hK
  u_skip kn hK
  u_op kn hK
  u_op kn hK
  u_skip kn hK
  u_skip kn hK
  u_skip kn hK
  u_skip kn hK
  u_op kn hK
  u_c stepG_region_end kn hK
  u_cnd false kn hK
  u_c stepG_skip kn hK
  u_c stepG_seq kn hK
  u_c stepG_seq kn hK
  u_reg kn hK
  u_op kn hK
  u_op kn hK
  u_op kn hK
  u_skip kn hK
  u_skip kn hK
  u_op kn hK
  u_c stepG_region_end kn hK
  u_cnd true kn hK
  u_c stepG_ret' kn hK
  exact Goes.stop fun w₃ h₃ => fin w₃ (kn hK h₃)
end Cfg
end Go.Proofs.YtkkmokodaejheaaDoor
namespace Go.Proofs.YtkkmokodaejheaaDoor
open Go Go.Conc Go.Conc.Lib Go.ConcR.Gen Go.RowKit
open Go.ConcR (stA smA rd wr KK WgAt Bk DC0)
def Gs (c : Cfg) (L : WgLink) (f : Frame) (cs : List Frame) (g : Goroutine) (w : World) : Prop :=
 ∃ T : Array Value, g = G ((base L.wait).at ⟨T, []⟩ [.code (L7 L), .inLoop (L7 L), .inBlock 0]) (f :: cs) ∧ T.size = 84 ∧ T[0]? = some (.pointer (some ⟨c.A.Wg, 0, none⟩)) ∧ c.Sh w
def Lu (P : Program) (g0 g : Goroutine) : Prop := ∃ n, ∀ w, Goes P true AtRel DC0 (fun g' w' => g' = g0 ∧ AtRel w w') n g w
namespace Cfg
variable {c : Cfg} {L : WgLink}
set_option maxHeartbeats 8000000 in
theorem PQ (K : c.Ok0) (H : WgLib c.P L) (hty : c.ty = L.tWg) {b₀ : Frame} {a₀ : Act} {ops₀ : Array Oper} {i₀ : Nat} {rest₀ : List Nat} {k₀ : List Item} {cs : List Frame}
  (hA : ∀ g w, Gs c L (b₀.at a₀ (.inRegion ops₀ (i₀ :: rest₀) :: k₀)) cs g w → c.Anch g w)
  (hT : ∀ g, Lu c.P (G (b₀.at (a₀.put ((ops₀[i₀]?).bind (·.dst)) (.tuple #[])) (.inRegion ops₀ rest₀ :: k₀)) cs) g → c.Tail g) (g : Goroutine) (w : World) (h : Gs c L (b₀.at a₀ (.inRegion ops₀ (i₀ :: rest₀) :: k₀)) cs g w) :
  Goes c.P true (c.Rel none_) DC0 (c.AtW1 none_) 50 g w := by
 lib_facts
 obtain ⟨T, rfl, hT84, t0, hK⟩ := h
 obtain ⟨v0, v1, v2, v3, v4, v5, v6, v7, v8, v9, v10, v11, v12, v13, v14, v15, v16, v17, v18, v19, v20, v21, v22, v23, v24, v25, v26, v27, v28, v29, v30, v31, v32, v33, v34, v35, v36, v37, v38, v39, v40, v41, v42, v43, v44, v45, v46, v47, v48, v49, v50, v51, v52, v53, v54, v55, v56, v57, v58, v59, v60, v61, v62, v63, v64, v65, v66, v67, v68, v69, v70, v71, v72, v73, v74, v75, v76, v77, v78, v79, v80, v81, v82, v83, rfl⟩ := array84 T hT84
 simp only [List.getElem?_toArray, List.getElem?_cons_zero, Option.some.injEq] at t0
 subst t0
 simp only [L7, body_wait, waitFn, Option.getD_some]
 u_c stepG_block kn hK
 u_c stepG_seq kn hK
 u_reg kn hK
 u_op kn hK
 u_op kn hK
 u_op kn hK
 u_call H.f_uLoad (nm_uLoad L) uLoadFn kn hK
 u_c stepG_seq kn hK
 u_reg kn hK
 u_op kn hK
 u_c stepG_region_end kn hK
 u_c stepG_seq kn hK
 u_reg kn hK
 u_op kn hK
 u_op kn hK
 u_op kn hK
 refine Goes.stop (fun w₁ h₁ => ?_)
 replace hK := kn hK h₁
 clear h₁
 refine ⟨rfl, fun v hv hw => ?_⟩
 rw [hty] at hw
 rcases Nat.eq_zero_or_pos v with rfl | hvp
 ·replace hw : WgAt L.tWg c.A.Wg w₁ 0 0 := by simpa using hw
  refine ⟨_, stepG_load_atomic (v := 0) rfl rfl (base_kind _) rfl H.f_loadU64 (x_loadU64_n L) (x_loadU64_b L) (x_loadU64_x L) .u64 (x_loadU64_f L) rfl hw.cellSt, fun _ => Cv (n := 90) ?_, fun h => absurd rfl h⟩
  clear hw
  walk_nrm
  u_op kn hK
  u_c stepG_region_end kn hK
  u_c stepG_ret' kn hK
  u_leave1 H.f_uLoad kn hK
  u_op kn hK
  u_c stepG_region_end kn hK
  u_c stepG_seq kn hK
  u_reg kn hK
  u_op kn hK
  u_op kn hK
  u_op kn hK
  u_op kn hK
  u_c stepG_region_end kn hK
  u_c stepG_seq kn hK
  u_reg kn hK
  u_op kn hK
  u_op kn hK
  u_op kn hK
  u_op kn hK
  u_c stepG_region_end kn hK
  u_c stepG_seq kn hK
  u_c stepG_seq kn hK
  u_reg kn hK
  u_op kn hK
  u_op kn hK
  u_c stepG_region_end kn hK
  u_cond true kn hK
  u_c stepG_seq kn hK
  u_cond true kn hK
  u_c stepG_seq kn hK
  u_reg kn hK
  refine Goes.stop (fun w₅ h₅ => ?_)
  replace hK := kn hK h₅
  clear h₅
  refine ⟨rfl, _, stepG_mark0 .enable (by simp) rfl rfl (by k_ne) rfl H.f_enable (x_enable_n L) (x_enable_b L) (x_enable_x L) (x_enable_f L), Cv (n := 20) ?_⟩
  walk_nrm
  u_c stepG_region_end kn hK
  u_reg kn hK
  u_op kn hK
  u_in kn hK
  refine goes_oper_k rfl rfl (by k_ne) (fun Y hY => ?_)
  have hv := run_convert_to_unsafe (P := c.P) H.underlying_tWgP H.underlying_tUP H.room_tWg (MP hty hK).choose_spec
  have he := fun es => events_convert_to_unsafe (P := c.P) H.underlying_tWgP H.underlying_tUP H.room_tWg (MP hty hK).choose_spec es
  go_simp
  refine hY _ _ ⟨?_, ?_⟩
  ·u_none
   intro e1 h1
   have h2 := mem_listed h1
   simp [go_sem, he] at h2
  clear hY Y hv he
  refine Goes.stop (fun w₆ h₆ => ?_)
  replace hK := kn hK h₆
  clear h₆
  refine ⟨rfl, _, stepG_markAt .acquire (by simp) rfl rfl (by k_ne) rfl H.f_acquire (x_acquire_n L) (x_acquire_b L) (x_acquire_x L) (x_acquire_f L) (by simp [Act.eval, stA]), hT _ ⟨60, fun w => ?_⟩⟩
  clear hK
  have hK : AtRel w w := atRel_refl w
  have kn : ∀ {x y : World}, AtRel w x → AtRel x y → AtRel w y := fun h k => atRel_trans _ _ _ h k
  revert hK
  generalize hw0 : w = w' at kn ⊢
  intro hK
  walk_nrm
  u_c stepG_region_end kn hK
  u_c stepG_seq kn hK
  u_c stepG_seq kn hK
  u_reg kn hK
  u_op kn hK
  u_op kn hK
  u_op kn hK
  u_op kn hK
  u_op kn hK
  u_op kn hK
  u_op kn hK
  u_op kn hK
  u_skip kn hK
  u_skip kn hK
  u_op kn hK
  u_c stepG_region_end kn hK
  u_cond false kn hK
  u_c stepG_skip kn hK
  u_c stepG_ret' kn hK
  u_leave0 H.f_wait kn hK
  exact Goes.stop fun w7 h7 => ⟨rfl, kn hK h7⟩
 ·obtain ⟨S, hS⟩ : ∃ S : Int, (v : Int) * KK = S := ⟨_, rfl⟩
  have a1 : S / 4294967296 = (v : Int) := by rw [← hS]; simp only [KK]; omega
  have b1 : bits .and .u64 S 2147483648 = 0 := by rw [← hS]; have := Go.ConcN.st_flag v 0 (by omega) (by omega); simpa [KK] using this
  have b2 : bits .and .u64 S 2147483647 = 0 := by rw [← hS]; have := Go.ConcN.st_waiters v 0 (by omega) (by omega); simpa [KK] using this
  have c1 : IntKind.i32.wrap (v : Int) = (v : Int) := by rw [IntKind.wrap_i32]; omega
  have w1 : IntKind.u64.wrap (S + 1) = S + 1 := by rw [IntKind.wrap_u64, ← hS]; simp only [KK]; omega
  have q3 : decide ((v : Int) < 0) = false := decide_eq_false (by omega)
  have q4 : decide (0 < (v : Int)) = true := decide_eq_true (by omega)
  have q5 : ((v : Int) == 0) = false := by simp; omega
  have q6 : decide ((v : Int) = 0) = false := decide_eq_false (by omega)
  rw [hS] at hw
  refine ⟨_, stepG_load_atomic (v := S) rfl rfl (base_kind _) rfl H.f_loadU64 (x_loadU64_n L) (x_loadU64_b L) (x_loadU64_x L) .u64 (x_loadU64_f L) rfl hw.cellSt, fun h0 => absurd h0 (by omega), fun _ => Cv (n := 90) ?_⟩
  clear hw
  walk_nrm
  u_op kn hK
  u_c stepG_region_end kn hK
  u_c stepG_ret' kn hK
  u_leave1 H.f_uLoad kn hK
  u_op kn hK
  u_c stepG_region_end kn hK
  u_c stepG_seq kn hK
  u_reg kn hK
  u_op kn hK
  u_op kn hK
  u_op kn hK
  u_op kn hK
  u_c stepG_region_end kn hK
  u_c stepG_seq kn hK
  u_reg kn hK
  u_op kn hK
  u_op kn hK
  u_op kn hK
  u_op kn hK
  u_c stepG_region_end kn hK
  u_c stepG_seq kn hK
  u_c stepG_seq kn hK
  u_reg kn hK
  u_op kn hK
  u_op kn hK
  u_c stepG_region_end kn hK
  u_cnd false kn hK
  u_c stepG_skip kn hK
  u_c stepG_seq kn hK
  u_reg kn hK
  u_op kn hK
  u_op kn hK
  u_op kn hK
  u_op kn hK
  u_op kn hK
  u_op kn hK
  u_call H.f_uCas (nm_uCas L) uCasFn kn hK
  u_c stepG_seq kn hK
  u_reg kn hK
  u_op kn hK
  u_c stepG_region_end kn hK
  u_c stepG_seq kn hK
  u_reg kn hK
  u_op kn hK
  u_op kn hK
  u_op kn hK
  u_op kn hK
  u_op kn hK
  refine Goes.stop (fun w₂ h₂ => ?_)
  replace hK := kn hK h₂
  clear h₂
  refine ⟨rfl, fun v' hv' hw => ⟨fun e => ?_, fun e => ?_⟩⟩
  ·subst e
   rw [hty, hS] at hw
   rw [hS]
   refine ⟨_, (stepG_cas_hit (v := S) (n := S + 1) rfl rfl (base_kind _) rfl H.f_casU64 (x_casU64_n L) (x_casU64_b L) (x_casU64_x L) .u64 (x_casU64_f L) rfl rfl rfl hw.cellSt (hw.thaw 0)).trans (by rfl), Rn (n := 90) ?_⟩
   replace hK : c.Sh (w₂.setCell (stA c.A.Wg) (.int .u64 (S + 1))) := Jf K hK rfl (by rw [hty]; exact hw.setSt _)
   clear hw
   walk_nrm
   u_op kn hK
   u_c stepG_region_end kn hK
   u_c stepG_ret' kn hK
   u_leave1 H.f_uCas kn hK
   u_c stepG_region_end kn hK
   u_cond true kn hK
   u_c stepG_seq kn hK
   u_c stepG_seq kn hK
   u_reg kn hK
   u_op kn hK
   u_op kn hK
   u_op kn hK
   u_op kn hK
   u_c stepG_region_end kn hK
   u_cond true kn hK
   u_reg kn hK
   u_op kn hK
   u_op kn hK
   u_op kn hK
   u_in kn hK
   refine goes_oper_k rfl rfl (by k_ne) (fun Y hY => ?_)
   have hv := run_convert_to_unsafe (P := c.P) H.underlying_tPU32 H.underlying_tUP H.room_tU32 (Rp hty hK).choose_spec
   have he := fun es => events_convert_to_unsafe (P := c.P) H.underlying_tPU32 H.underlying_tUP H.room_tU32 (Rp hty hK).choose_spec es
   go_simp
   refine hY _ _ ⟨?_, ?_⟩
   ·u_none
    intro e1 h1
    have h2 := mem_listed h1
    simp [go_sem, he] at h2
   clear hY Y hv he
   refine Goes.stop (fun w₁ h₁ => ?_)
   replace hK := kn hK h₁
   clear h₁
   refine Rm rfl (fun w1 => stepG_markAt .write (by simp) rfl rfl (by k_ne) rfl H.f_raceWrite (x_raceWrite_n L) (x_raceWrite_b L) (x_raceWrite_x L) (x_raceWrite_f L) (ad := ⟨c.A.Wg, 1, none⟩) (by simp [Act.eval])) ⟨⟨c.A.Wg, 1, none⟩, rfl, .inr rfl⟩ fun w₁ h₁ => ?_
   replace hK := kn hK h₁
   clear h₁
   refine Cv (n := 90) ?_
   walk_nrm
   u_c stepG_region_end kn hK
   u_c stepG_seq kn hK
   u_reg kn hK
   u_op kn hK
   u_c stepG_region_end kn hK
   u_c stepG_seq kn hK
   u_c stepG_seq kn hK
   u_reg kn hK
   u_op kn hK
   u_op kn hK
   u_op kn hK
   u_op kn hK
   u_skip kn hK
   u_op kn hK
   u_c stepG_region_end kn hK
   u_cond false kn hK
   u_c stepG_skip kn hK
   u_c stepG_seq kn hK
   u_reg kn hK
   u_op kn hK
   u_op kn hK
   u_op kn hK
   u_op kn hK
   refine Goes.stop (fun w₃ h₃ => ?_)
   replace hK := kn hK h₃
   clear h₃
   refine ⟨rfl, rfl, fun ⟨st, hw⟩ => ?_, fun hf => ?_⟩
   ·rw [hty] at hw
    exact stepG_semacquire_wait rfl rfl rfl H.f_semacquire (x_semacquire_n L) (x_semacquire_b L) (x_semacquire_x L) (x_semacquire_f L) (by simp [Act.eval, smA]) hw.cellSm
   rw [hty] at hf
   refine ⟨_, (stepG_semacquire (n := 1) rfl rfl (base_kind _) rfl H.f_semacquire (x_semacquire_n L) (x_semacquire_b L) (x_semacquire_x L) (x_semacquire_f L) (by simp [Act.eval, smA]) hf.cellSm (by decide) (hf.thaw 1)).trans (by rfl), Cv (n := 60) ?_⟩
   replace hK : c.Sh (w₃.setCell (smA c.A.Wg) (.int .u32 0)) := Jf K hK rfl (by rw [hty]; exact hf.setSm 0)
   clear hf
   walk_nrm
   u_c stepG_region_end kn hK
   u_c stepG_seq kn hK
   u_reg kn hK
   u_op kn hK
   u_op kn hK
   u_op kn hK
   u_call H.f_uLoad (nm_uLoad L) uLoadFn kn hK
   u_c stepG_seq kn hK
   u_reg kn hK
   u_op kn hK
   u_c stepG_region_end kn hK
   u_c stepG_seq kn hK
   u_reg kn hK
   u_op kn hK
   u_op kn hK
   u_op kn hK
   refine Goes.stop (fun w₄ h₄ => ?_)
   replace hK := kn hK h₄
   clear h₄
   refine ⟨rfl, fun hw => ?_⟩
   rw [hty] at hw
   refine ⟨_, stepG_load_atomic (v := 0) rfl rfl (base_kind _) rfl H.f_loadU64 (x_loadU64_n L) (x_loadU64_b L) (x_loadU64_x L) .u64 (x_loadU64_f L) rfl hw.cellSt, Cv (n := 60) ?_⟩
   clear hw
   walk_nrm
   u_op kn hK
   u_c stepG_region_end kn hK
   u_c stepG_ret' kn hK
   u_leave1 H.f_uLoad kn hK
   u_op kn hK
   u_op kn hK
   u_c stepG_region_end kn hK
   u_c stepG_seq kn hK
   u_cond true kn hK
   u_c stepG_seq kn hK
   u_reg kn hK
   refine Goes.stop (fun w₅ h₅ => ?_)
   replace hK := kn hK h₅
   clear h₅
   refine ⟨rfl, _, stepG_mark0 .enable (by simp) rfl rfl (by k_ne) rfl H.f_enable (x_enable_n L) (x_enable_b L) (x_enable_x L) (x_enable_f L), Cv (n := 20) ?_⟩
   walk_nrm
   u_c stepG_region_end kn hK
   u_reg kn hK
   u_op kn hK
   u_in kn hK
   refine goes_oper_k rfl rfl (by k_ne) (fun Y hY => ?_)
   have hv := run_convert_to_unsafe (P := c.P) H.underlying_tWgP H.underlying_tUP H.room_tWg (MP hty hK).choose_spec
   have he := fun es => events_convert_to_unsafe (P := c.P) H.underlying_tWgP H.underlying_tUP H.room_tWg (MP hty hK).choose_spec es
   go_simp
   refine hY _ _ ⟨?_, ?_⟩
   ·u_none
    intro e1 h1
    have h2 := mem_listed h1
    simp [go_sem, he] at h2
   clear hY Y hv he
   refine Goes.stop (fun w₆ h₆ => ?_)
   replace hK := kn hK h₆
   clear h₆
   refine ⟨rfl, _, stepG_markAt .acquire (by simp) rfl rfl (by k_ne) rfl H.f_acquire (x_acquire_n L) (x_acquire_b L) (x_acquire_x L) (x_acquire_f L) (by simp [Act.eval, stA]), hT _ ⟨60, fun w => ?_⟩⟩
   clear hK
   have hK : AtRel w w := atRel_refl w
   have kn : ∀ {x y : World}, AtRel w x → AtRel x y → AtRel w y := fun h k => atRel_trans _ _ _ h k
   revert hK
   generalize hw0 : w = w' at kn ⊢
   intro hK
   walk_nrm
   u_c stepG_region_end kn hK
   u_c stepG_seq kn hK
   u_c stepG_seq kn hK
   u_reg kn hK
   u_op kn hK
   u_c stepG_region_end kn hK
   u_cond false kn hK
   u_c stepG_skip kn hK
   u_c stepG_ret' kn hK
   u_leave0 H.f_wait kn hK
   exact Goes.stop fun w7 h7 => ⟨rfl, kn hK h7⟩
  ·rw [hty] at hw
   refine ⟨_, stepG_cas_miss (v := (v' : Int) * KK) (old := S) (n := S + 1) rfl rfl (base_kind _) rfl H.f_casU64 (x_casU64_n L) (x_casU64_b L) (x_casU64_x L) .u64 (x_casU64_f L) rfl rfl rfl hw.cellSt (hw.thaw 0) (by rw [← hS]; simp only [KK]; omega), Cv (n := 40) ?_⟩
   clear hw
   walk_nrm
   u_op kn hK
   u_c stepG_region_end kn hK
   u_c stepG_ret' kn hK
   u_leave1 H.f_uCas kn hK
   u_c stepG_region_end kn hK
   u_cond false kn hK
   u_c stepG_skip kn hK
   u_c stepG_inBlock kn hK
   u_c stepG_inLoop kn hK
   refine Goes.stop (fun w₃ h₃ => ?_)
   replace hK := kn hK h₃
   exact hA _ _ ⟨_, rfl, by simp, by simp, hK⟩
set_option maxHeartbeats 8000000 in
theorem PP (H : WgLib c.P L) {b₀ : Frame} {a₀ : Act} {ops₀ : Array Oper} {i₀ : Nat} {rest₀ : List Nat} {k₀ : List Item} {cs : List Frame}
  (hA : ∀ g w, Gs c L (b₀.at a₀ (.inRegion ops₀ (i₀ :: rest₀) :: k₀)) cs g w → c.Anch g w) (w : World) (hK : c.Sh w) :
  Goes c.P true (c.Rel none_) DC0 (c.AtKd none_) 10 (G ((base L.wait).at ⟨(.pointer (some ⟨c.A.Wg, 0, none⟩) :: List.replicate ((waitFn L).ntmps - 1) undef).toArray, []⟩ [.code (body_wait L)]) (b₀.at a₀ (.inRegion ops₀ (i₀ :: rest₀) :: k₀) :: cs)) w := by
 simp only [waitFn, body_wait, Option.getD_some, List.replicate]
 lib_facts
 u_c stepG_seq kn hK
 u_cond true kn hK
 u_reg kn hK
 refine Goes.stop (fun w₁ h₁ => ?_)
 replace hK := kn hK h₁
 clear h₁
 refine ⟨rfl, _, stepG_mark0 .disable (by simp) rfl rfl (by k_ne) rfl H.f_disable (x_disable_n L) (x_disable_b L) (x_disable_x L) (x_disable_f L), Cv (n := 10) ?_⟩
 walk_nrm
 u_c stepG_region_end kn hK
 u_c stepG_block kn hK
 u_c stepG_loop kn hK
 exact Goes.stop (fun w₂ h₂ => hA _ _ ⟨_, rfl, by simp, by simp, kn hK h₂⟩)
end Cfg
end Go.Proofs.YtkkmokodaejheaaDoor
namespace Go.Proofs.YtkkmokodaejheaaDoor
open Go Go.Conc
abbrev link : Go.Conc.Lib.WgLink := { add := 14, done := 16, wait := 17, relMerge := 22, disable := 23, enable := 24, inBubble := 25, associate := 26, fatal := 27, uOr := 28, uAdd := 29, raceRead := 30, uLoad := 31, uStore := 32, disassociate := 33, semrelease := 34, acquire := 35, isAssociated := 36, uCas := 37, raceWrite := 38, semacquire := 39, orU64 := 47, addU64 := 48, loadU64 := 49, storeU64 := 50, casU64 := 51, tWgP := 74, tUP := 76, tAssoc := 77, tWg := 60, tAU := 57, tU64 := 55, tUint := 45, tU32 := 58, tPU32 := 81, tPAU := 98, tPU64 := 100, tNoCopy := 52, tANoCopy := 53, tAlign64 := 54 }
theorem Ko : Go.Conc.Lib.WgLib Tryd.prog link :=
 ⟨Tryd.func14, Tryd.func16, Tryd.func17, Tryd.func22, Tryd.func23, Tryd.func24, Tryd.func25, Tryd.func26, Tryd.func27, Tryd.func28, Tryd.func29, Tryd.func30, Tryd.func31, Tryd.func32, Tryd.func33, Tryd.func34, Tryd.func35, Tryd.func36, Tryd.func37, Tryd.func38, Tryd.func39, Tryd.func47, Tryd.func48, Tryd.func49, Tryd.func50, Tryd.func51, Tryd.underlying74, Tryd.runUnderlying74, Tryd.sizeOf74, Tryd.isAgg74, Tryd.zeroValue74, Tryd.underlying76, Tryd.runUnderlying76, Tryd.sizeOf76, Tryd.isAgg76, Tryd.zeroValue76, Tryd.underlying77, Tryd.runUnderlying77, Tryd.sizeOf77, Tryd.isAgg77, Tryd.zeroValue77, Tryd.underlying60, Tryd.runUnderlying60, Tryd.sizeOf60, Tryd.isAgg60, Tryd.zeroValue60, Tryd.underlying57, Tryd.runUnderlying57, Tryd.sizeOf57, Tryd.isAgg57, Tryd.zeroValue57, Tryd.underlying55, Tryd.runUnderlying55, Tryd.sizeOf55, Tryd.isAgg55, Tryd.zeroValue55, Tryd.underlying45, Tryd.runUnderlying45, Tryd.sizeOf45, Tryd.isAgg45, Tryd.zeroValue45, Tryd.underlying58, Tryd.runUnderlying58, Tryd.sizeOf58, Tryd.isAgg58, Tryd.zeroValue58, Tryd.underlying81, Tryd.runUnderlying81, Tryd.sizeOf81, Tryd.isAgg81, Tryd.zeroValue81, Tryd.underlying98, Tryd.runUnderlying98, Tryd.sizeOf98, Tryd.isAgg98, Tryd.zeroValue98, Tryd.underlying100, Tryd.runUnderlying100, Tryd.sizeOf100, Tryd.isAgg100, Tryd.zeroValue100, Tryd.underlying0, Tryd.runUnderlying0, Tryd.sizeOf0, Tryd.isAgg0, Tryd.zeroValue0, Tryd.underlying3, Tryd.runUnderlying3, Tryd.sizeOf3, Tryd.isAgg3, Tryd.zeroValue3, Tryd.underlying4, Tryd.runUnderlying4, Tryd.sizeOf4, Tryd.isAgg4, Tryd.zeroValue4, Tryd.underlying9, Tryd.runUnderlying9, Tryd.sizeOf9, Tryd.isAgg9, Tryd.zeroValue9, Tryd.underlying20, Tryd.runUnderlying20, Tryd.sizeOf20, Tryd.isAgg20, Tryd.zeroValue20, Tryd.underlying21, Tryd.runUnderlying21, Tryd.sizeOf21, Tryd.isAgg21, Tryd.zeroValue21, (by kernel_rfl), (by kernel_rfl)⟩
end Go.Proofs.YtkkmokodaejheaaDoor
namespace Go.Proofs.YtkkmokodaejheaaDoor
open Go
structure Ren where
 to : Nat → Option Nat
 own : Nat → Prop
 base : Nat
 inj : ∀ a b c, to a = some c → to b = some c → a = b
 low : ∀ a c, to a = some c → a < base ∨ c < base → c = a
structure Ren.Le (π π' : Ren) : Prop where
 to : ∀ a c, π.to a = some c → π'.to a = some c
 own : ∀ a, π.own a → π'.own a
 base : π'.base = π.base
theorem Ren.Le.refl (π : Ren) : π.Le π := ⟨fun _ _ h => h, fun _ h => h, rfl⟩
theorem Ren.Le.trans {a b c : Ren} (h : a.Le b) (k : b.Le c) : a.Le c := ⟨fun x y e => k.to x y (h.to x y e), fun x e => k.own x (h.own x e), k.base.trans h.base⟩
inductive LR {α β : Type} (R : α → β → Prop) : List α → List β → Prop where
 | nil : LR R [] []
 | cons {x : α} {y : β} {l : List α} {l' : List β} : R x y → LR R l l' → LR R (x :: l) (y :: l')
def AR {α β : Type} (R : α → β → Prop) (xs : Array α) (ys : Array β) : Prop := xs.size = ys.size ∧ ∀ (i : Nat) x y, xs[i]? = some x → ys[i]? = some y → R x y
inductive OR {α β : Type} (R : α → β → Prop) : Option α → Option β → Prop where
 | none : OR R none none
 | some {x : α} {y : β} : R x y → OR R (some x) (some y)
section
variable {α β γ δ ε : Type} {R : α → β → Prop} {R' : γ → δ → Prop}
theorem OR.map {a : Option α} {b : Option β} (h : OR R a b) {f : α → γ} {g : β → δ} (hr : ∀ x y, R x y → R' (f x) (g y)) : OR R' (a.map f) (b.map g) := by
 cases h with
 | none => exact .none
 | some h => exact .some (hr _ _ h)
theorem OR.getD {a : Option α} {b : Option β} (h : OR R a b) {d : α} {d' : β} (hd : R d d') : R (a.getD d) (b.getD d') := by
 cases h with
 | none => exact hd
 | some h => exact h
theorem LR.length {l : List α} {l' : List β} (h : LR R l l') : l.length = l'.length := by
 induction h with
 | nil => rfl
 | cons _ _ ih => simp [ih]
theorem LR.mono {S : α → β → Prop} {l : List α} {l' : List β} (h : LR R l l') (hs : ∀ x y, R x y → S x y) : LR S l l' := by
 induction h with
 | nil => exact .nil
 | cons h _ ih => exact .cons (hs _ _ h) ih
theorem LR.app {l m : List α} {l' m' : List β} (h : LR R l l') (k : LR R m m') : LR R (l ++ m) (l' ++ m') := by
 induction h with
 | nil => exact k
 | cons h _ ih => exact .cons h ih
theorem LR.of_index : ∀ {l : List α} {l' : List β}, l.length = l'.length → (∀ (i : Nat) x y, l[i]? = some x → l'[i]? = some y → R x y) → LR R l l'
 | [], [], _, _ => .nil
 | [], _ :: _, h, _ => by simp at h
 | _ :: _, [], h, _ => by simp at h
 | x :: l, y :: l', h, k => .cons (k 0 x y rfl rfl) (LR.of_index (by simpa using h) fun i a b ha hb => k (i + 1) a b (by simpa using ha) (by simpa using hb))
theorem LR.index {l : List α} {l' : List β} (h : LR R l l') : ∀ (i : Nat) x y, l[i]? = some x → l'[i]? = some y → R x y := by
 induction h with
 | nil => intro i x y hx; simp at hx
 | cons h _ ih =>
  intro i x y hx hy
  cases i with
  | zero => simp at hx hy; subst hx; subst hy; exact h
  | succ i => exact ih i x y (by simpa using hx) (by simpa using hy)
theorem AR.lr {xs : Array α} {ys : Array β} (h : AR R xs ys) : LR R xs.toList ys.toList :=
 .of_index (by simpa using h.1) fun i x y hx hy => h.2 i x y (by simpa using hx) (by simpa using hy)
theorem LR.ar {l : List α} {l' : List β} (h : LR R l l') : AR R l.toArray l'.toArray :=
 ⟨by simpa using h.length, fun i x y hx hy => h.index i x y (by simpa using hx) (by simpa using hy)⟩
theorem AR.of_lr {xs : Array α} {ys : Array β} (h : LR R xs.toList ys.toList) : AR R xs ys := by simpa using h.ar
theorem AR.mono {S : α → β → Prop} {xs : Array α} {ys : Array β} (h : AR R xs ys) (hs : ∀ x y, R x y → S x y) : AR S xs ys := ⟨h.1, fun i x y a b => hs _ _ (h.2 i x y a b)⟩
theorem AR.nil : AR R #[] #[] := ⟨rfl, fun i x y h => by simp at h⟩
theorem AR.get {xs : Array α} {ys : Array β} (h : AR R xs ys) {i : Nat} {x : α} (hx : xs[i]? = some x) : ∃ y, ys[i]? = some y ∧ R x y := by
 obtain ⟨hi, _⟩ := Array.getElem?_eq_some_iff.1 hx
 have hj : i < ys.size := h.1 ▸ hi
 exact ⟨ys[i], Array.getElem?_eq_getElem hj, h.2 i x _ hx (Array.getElem?_eq_getElem hj)⟩
theorem AR.get_none {xs : Array α} {ys : Array β} (h : AR R xs ys) {i : Nat} (hx : xs[i]? = none) : ys[i]? = none := by
 rw [Array.getElem?_eq_none_iff] at hx ⊢; rw [← h.1]; exact hx
theorem AR.opt {xs : Array α} {ys : Array β} (h : AR R xs ys) (i : Nat) : OR R xs[i]? ys[i]? := by
 rcases hx : xs[i]? with _ | x
 ·rw [h.get_none hx]; exact .none
 ·obtain ⟨y, hy, hr⟩ := h.get hx
  rw [hy]; exact .some hr
theorem AR.getD {xs : Array α} {ys : Array β} (h : AR R xs ys) (i : Nat) {d : α} {d' : β} (hd : R d d') : R (xs.getD i d) (ys.getD i d') := by
 rw [Array.getD_eq_getD_getElem?, Array.getD_eq_getD_getElem?]
 exact (h.opt i).getD hd
theorem AR.push {xs : Array α} {ys : Array β} (h : AR R xs ys) {x : α} {y : β} (hr : R x y) : AR R (xs.push x) (ys.push y) := by
 refine .of_lr ?_
 rw [Array.toList_push, Array.toList_push]
 exact h.lr.app (.cons hr .nil)
theorem AR.app {xs xs' : Array α} {ys ys' : Array β} (h : AR R xs ys) (k : AR R xs' ys') : AR R (xs ++ xs') (ys ++ ys') := by
 refine .of_lr ?_
 rw [Array.toList_append, Array.toList_append]
 exact h.lr.app k.lr
theorem AR.of_idx {xs : Array α} {ys : Array β} (hs : xs.size = ys.size) (h : ∀ i : Nat, OR R xs[i]? ys[i]?) : AR R xs ys := by
 refine ⟨hs, fun i x y hx hy => ?_⟩
 have := h i
 rw [hx, hy] at this
 cases this with
 | some h => exact h
theorem AR.extract {xs : Array α} {ys : Array β} (h : AR R xs ys) (a b : Nat) : AR R (xs.extract a b) (ys.extract a b) := by
 refine .of_idx (by simp [h.1]) fun i => ?_
 rw [Array.getElem?_extract, Array.getElem?_extract, h.1]
 split
 ·exact h.opt _
 ·exact .none
theorem AR.set {xs : Array α} {ys : Array β} (h : AR R xs ys) (i : Nat) {x : α} {y : β} (hr : R x y) : AR R (xs.setIfInBounds i x) (ys.setIfInBounds i y) := by
 refine .of_idx (by simp [h.1]) fun j => ?_
 rw [Array.getElem?_setIfInBounds, Array.getElem?_setIfInBounds, h.1]
 split
 ·split
  ·exact .some hr
  ·exact .none
 ·exact h.opt _
theorem AR.modify {xs : Array α} {ys : Array β} (h : AR R xs ys) (i : Nat) {f : α → α} {g : β → β} (hr : ∀ x y, R x y → R (f x) (g y)) : AR R (xs.modify i f) (ys.modify i g) := by
 refine .of_idx (by simp [h.1]) fun j => ?_
 rw [Array.getElem?_modify, Array.getElem?_modify]
 split
 ·exact (h.opt j).map hr
 ·exact h.opt _
theorem AR.map {xs : Array α} {ys : Array β} (h : AR R xs ys) {f : α → γ} {g : β → δ} (hr : ∀ x y, R x y → R' (f x) (g y)) : AR R' (xs.map f) (ys.map g) := by
 refine .of_idx (by simp [h.1]) fun j => ?_
 rw [Array.getElem?_map, Array.getElem?_map]
 exact (h.opt j).map hr
theorem AR.same {zs : Array ε} {f : ε → α} {g : ε → β} (hr : ∀ z ∈ zs, R (f z) (g z)) : AR R (zs.map f) (zs.map g) := by
 refine .of_idx (by simp) fun j => ?_
 rw [Array.getElem?_map, Array.getElem?_map]
 rcases hz : zs[j]? with _ | z
 ·exact .none
 ·exact .some (hr z (Array.mem_of_getElem? hz))
theorem AR.rep (n : Nat) {x : α} {y : β} (h : R x y) : AR R (Array.replicate n x) (Array.replicate n y) := by
 refine .of_idx (by simp) fun j => ?_
 rw [Array.getElem?_replicate, Array.getElem?_replicate]
 split
 ·exact .some h
 ·exact .none
theorem LR.filter {l : List α} {l' : List β} (h : LR R l l') {p : α → Bool} {q : β → Bool} (hp : ∀ x y, R x y → p x = q y) : LR R (l.filter p) (l'.filter q) := by
 induction h with
 | nil => exact .nil
 | cons h _ ih =>
  rw [List.filter_cons, List.filter_cons, hp _ _ h]
  split
  ·exact .cons h ih
  ·exact ih
theorem AR.filter {xs : Array α} {ys : Array β} (h : AR R xs ys) {p : α → Bool} {q : β → Bool} (hp : ∀ x y, R x y → p x = q y) : AR R (xs.filter p) (ys.filter q) := by
 refine .of_lr ?_
 rw [Array.toList_filter, Array.toList_filter]
 exact h.lr.filter hp
theorem LR.all {l : List α} {l' : List β} (h : LR R l l') {p : α → Bool} {q : β → Bool} (hp : ∀ x y, R x y → p x = q y) : l.all p = l'.all q := by
 induction h with
 | nil => rfl
 | cons h _ ih => simp only [List.all_cons, hp _ _ h, ih]
theorem AR.all {xs : Array α} {ys : Array β} (h : AR R xs ys) {p : α → Bool} {q : β → Bool} (hp : ∀ x y, R x y → p x = q y) : xs.all p = ys.all q := by
 have := h.lr.all hp
 simpa using this
theorem AR.find {xs : Array α} {ys : Array β} (h : AR R xs ys) {p : α → Bool} {q : β → Bool} (hp : ∀ x y, R x y → p x = q y) : OR R (xs.find? p) (ys.find? q) := by
 rw [← Array.find?_toList, ← Array.find?_toList]
 have := h.lr
 generalize xs.toList = l at this
 generalize ys.toList = l' at this
 induction this with
 | nil => exact .none
 | cons h _ ih =>
  rw [List.find?_cons, List.find?_cons, hp _ _ h]
  split
  ·exact .some h
  ·exact ih
theorem AR.erase {xs : Array α} {ys : Array β} (h : AR R xs ys) (i : Nat) : AR R (xs.eraseIdxIfInBounds i) (ys.eraseIdxIfInBounds i) := by
 refine .of_lr ?_
 have e1 : ∀ {γ : Type} (zs : Array γ), (zs.eraseIdxIfInBounds i).toList = zs.toList.eraseIdx i := fun zs => by
  unfold Array.eraseIdxIfInBounds
  split
  ·simp
  ·rw [List.eraseIdx_of_length_le (by simpa using Nat.le_of_not_lt ‹_›)]
 rw [e1, e1]
 clear e1
 have := h.lr
 generalize xs.toList = l at this
 generalize ys.toList = l' at this
 induction this generalizing i with
 | nil => exact .nil
 | cons h t ih =>
  cases i with
  | zero => exact t
  | succ i => exact .cons h (ih i)
end
inductive FnR (F : FuncId → Prop) : Fn → Prop where
 | func {f : FuncId} : F f → FnR F (.func f)
def AdR (π : Ren) (a a' : Addr) : Prop := π.to a.block = some a'.block ∧ a'.off = a.off ∧ a'.spot = a.spot
inductive VR (F : FuncId → Prop) (π : Ren) : Value → Value → Prop where
 | bool (b : Bool) : VR F π (.bool b) (.bool b)
 | int (k : IntKind) (n : Int) : VR F π (.int k n) (.int k n)
 | string (s : ByteArray) : VR F π (.string s) (.string s)
 | ptr0 : VR F π (.pointer none) (.pointer none)
 | ptr {a a' : Addr} : AdR π a a' → VR F π (.pointer (some a)) (.pointer (some a'))
 | slice0 (l c : Nat) : VR F π (.slice none l c) (.slice none l c)
 | slice {a a' : Addr} (l c : Nat) : AdR π a a' → VR F π (.slice (some a) l c) (.slice (some a') l c)
 | map0 : VR F π (.map none) (.map none)
 | map {r r' : Nat} : π.to r = some r' → VR F π (.map (some r)) (.map (some r'))
 | chan0 : VR F π (.chan none) (.chan none)
 | chan {r r' : Nat} : π.to r = some r' → VR F π (.chan (some r)) (.chan (some r'))
 | func {fn : Fn} {a a' c c' : Array Value} : FnR F fn → a.size = a'.size → (∀ (i : Nat) x y, a[i]? = some x → a'[i]? = some y → VR F π x y) →
   c.size = c'.size → (∀ (i : Nat) x y, c[i]? = some x → c'[i]? = some y → VR F π x y) → VR F π (.func fn a c) (.func fn a' c')
 | nilFunc : VR F π .nilFunc .nilFunc
 | iface (t : TypeId) {v v' : Value} : VR F π v v' → VR F π (.iface t v) (.iface t v')
 | nilIface : VR F π .nilIface .nilIface
 | agg {c c' : Array Value} : c.size = c'.size → (∀ (i : Nat) x y, c[i]? = some x → c'[i]? = some y → VR F π x y) → VR F π (.agg c) (.agg c')
 | tuple {c c' : Array Value} : c.size = c'.size → (∀ (i : Nat) x y, c[i]? = some x → c'[i]? = some y → VR F π x y) → VR F π (.tuple c) (.tuple c')
 | hole {x : Value} : (∀ c, x ≠ .agg c) → (∀ c, x ≠ .tuple c) → (∀ b, x ≠ .bool b) → x ≠ .pointer none ∧ x ≠ .nilIface ∧ x ≠ .nilFunc ∧ (∀ n a c, x ≠ .func (.method n) a c) → VR F π (.tuple #[]) x
 | meth {n n' : String} {a c : Array Value} : VR F π (.func (.method n) #[.nilIface] #[]) (.func (.method n') a c)
section
variable {F : FuncId → Prop} {π π' : Ren}
theorem AdR.mono {a a' : Addr} (h : AdR π a a') (k : π.Le π') : AdR π' a a' := ⟨k.to _ _ h.1, h.2⟩
theorem AdR.add {a a' : Addr} (h : AdR π a a') (n : Nat) : AdR π (a.add n) (a'.add n) := by
 unfold Addr.add
 split
 ·exact h
 ·exact ⟨h.1, by simp [h.2.1], rfl⟩
theorem AdR.eq_iff {a a' b b' : Addr} (h : AdR π a a') (k : AdR π b b') : a' = b' ↔ a = b := by
 constructor
 ·intro e
  subst e
  have e1 := π.inj _ _ _ h.1 k.1
  have e2 := h.2.1.symm.trans k.2.1
  have e3 := h.2.2.symm.trans k.2.2
  cases a; cases b; simp_all
 ·intro e
  subst e
  have e1 := Option.some.inj (h.1.symm.trans k.1)
  have e2 := h.2.1.trans k.2.1.symm
  have e3 := h.2.2.trans k.2.2.symm
  cases a'; cases b'; simp_all
theorem AdR.block_iff {a a' b b' : Addr} (h : AdR π a a') (k : AdR π b b') : a'.block = b'.block ↔ a.block = b.block := by
 constructor
 ·intro e
  have h1 := h.1; rw [e] at h1
  exact π.inj _ _ _ h1 k.1
 ·intro e
  have h1 := h.1; rw [e, k.1] at h1
  exact (Option.some.inj h1).symm
theorem VR.agg' {c c' : Array Value} (h : AR (VR F π) c c') : VR F π (.agg c) (.agg c') := .agg h.1 h.2
theorem VR.tuple' {c c' : Array Value} (h : AR (VR F π) c c') : VR F π (.tuple c) (.tuple c') := .tuple h.1 h.2
theorem VR.func' {fn : Fn} {a a' c c' : Array Value} (hf : FnR F fn) (h : AR (VR F π) a a') (k : AR (VR F π) c c') : VR F π (.func fn a c) (.func fn a' c') := .func hf h.1 h.2 k.1 k.2
theorem VR.undef : VR F π undef undef := .tuple' .nil
theorem VR.mono {v v' : Value} (h : VR F π v v') (k : π.Le π') : VR F π' v v' := by
 induction h with
 | bool b => exact .bool b
 | int a b => exact .int a b
 | string s => exact .string s
 | ptr0 => exact .ptr0
 | ptr h => exact .ptr (h.mono k)
 | slice0 l c => exact .slice0 l c
 | slice l c h => exact .slice l c (h.mono k)
 | map0 => exact .map0
 | map h => exact .map (k.to _ _ h)
 | chan0 => exact .chan0
 | chan h => exact .chan (k.to _ _ h)
 | func hf h1 _ h3 _ i1 i2 => exact .func hf h1 i1 h3 i2
 | nilFunc => exact .nilFunc
 | iface t _ ih => exact .iface t ih
 | nilIface => exact .nilIface
 | agg h _ ih => exact .agg h ih
 | tuple h _ ih => exact .tuple h ih
 | hole h1 h2 h3 h4 => exact .hole h1 h2 h3 h4
 | meth => exact .meth
theorem VR.cells {v v' : Value} (h : VR F π v v') : AR (VR F π) v.cells v'.cells := by
 cases h with
 | agg h k => exact ⟨h, k⟩
 | bool b => exact (AR.nil).push (.bool b)
 | int a b => exact (AR.nil).push (.int a b)
 | string s => exact (AR.nil).push (.string s)
 | ptr0 => exact (AR.nil).push .ptr0
 | ptr h => exact (AR.nil).push (.ptr h)
 | slice0 l c => exact (AR.nil).push (.slice0 l c)
 | slice l c h => exact (AR.nil).push (.slice l c h)
 | map0 => exact (AR.nil).push .map0
 | map h => exact (AR.nil).push (.map h)
 | chan0 => exact (AR.nil).push .chan0
 | chan h => exact (AR.nil).push (.chan h)
 | func hf h1 i1 h3 i2 => exact (AR.nil).push (.func hf h1 i1 h3 i2)
 | nilFunc => exact (AR.nil).push .nilFunc
 | iface t ih => exact (AR.nil).push (.iface t ih)
 | nilIface => exact (AR.nil).push .nilIface
 | tuple h ih => exact (AR.nil).push (.tuple h ih)
 | hole h1 h2 h3 h4 =>
  have e : v'.cells = #[v'] := by cases v' <;> first | rfl | exact absurd rfl (h1 _)
  rw [e]; exact (AR.nil).push (.hole h1 h2 h3 h4)
 | meth => exact (AR.nil).push .meth
def Plain (v : Value) : Prop := ∀ (F : FuncId → Prop) (π : Ren), VR F π v v
end
end Go.Proofs.YtkkmokodaejheaaDoor
namespace Go.Proofs.YtkkmokodaejheaaDoor
open Go Go.Conc
inductive EnR (F : FuncId → Prop) (π : Ren) : MapEntry → MapEntry → Prop where
 | mk {k k' v v' : Value} (b : Nat) : VR F π k k' → VR F π v v' → EnR F π ⟨k, v, b⟩ ⟨k', v', b⟩
inductive Fj (F : FuncId → Prop) (π : Ren) : Obj → Obj → Prop where
 | cells {c c' : Array Value} (e : TypeId) (f : Nat × Nat) : AR (VR F π) c c' → Fj F π (.cells c e f) (.cells c' e f)
 | map {es es' : Array MapEntry} (n : Nat) : AR (EnR F π) es es' → Fj F π (.map es n) (.map es' n)
 | stringIter (s : ByteArray) (p : Nat) : Fj F π (.stringIter s p) (.stringIter s p)
 | mapIter0 (s : Nat) (l : Array Nat) (n : Nat) : Fj F π (.mapIter none s l n) (.mapIter none s l n)
 | mapIter {m m' : Nat} (s : Nat) (l : Array Nat) (n : Nat) : π.to m = some m' → Fj F π (.mapIter (some m) s l n) (.mapIter (some m') s l n)
 | number {a a' : Addr} (l : Bool) : AdR π a a' → Fj F π (.number a l) (.number a' l)
section
variable {F : FuncId → Prop} {π π' : Ren}
theorem EnR.mono {e e' : MapEntry} (h : EnR F π e e') (k : π.Le π') : EnR F π' e e' := by
 cases h with
 | mk b h1 h2 => exact .mk b (h1.mono k) (h2.mono k)
theorem Fj.mono {o o' : Obj} (h : Fj F π o o') (k : π.Le π') : Fj F π' o o' := by
 cases h with
 | cells e f h => exact .cells e f (h.mono fun _ _ h => h.mono k)
 | map n h => exact .map n (h.mono fun _ _ h => h.mono k)
 | stringIter s p => exact .stringIter s p
 | mapIter0 s l n => exact .mapIter0 s l n
 | mapIter s l n h => exact .mapIter s l n (k.to _ _ h)
 | number l h => exact .number l (h.mono k)
end
def _root_.Go.World.tp (w : World) (t : Nat → Question → Nat) : World := { w with tape := t }
structure WR (F : FuncId → Prop) (π : Ren) (R : Nat → Prop) (v w : World) : Prop where
 base : π.base ≤ v.heap.size ∧ π.base ≤ w.heap.size
 dom : ∀ k k', π.to k = some k' → k < v.heap.size ∧ k' < w.heap.size
 mine : ∀ k k', π.to k = some k' → π.own k → ∃ o o', v.heap[k]? = some o ∧ w.heap[k']? = some o' ∧ Fj F π o o'
 ro : ∀ k k', π.to k = some k' → ¬ π.own k → R k' ∧ ∃ c c' e f n, v.heap[k]? = some (.cells c e (0, n)) ∧ w.heap[k']? = some (.cells c' e f) ∧ AR (VR F π) c c' ∧ c.size ≤ n ∧ f.2 ≤ n
inductive LG : Halt → Prop where
 | stuck (s : String) : LG (.stuck s)
 | panic (v : Value) : LG (.panic v)
 | unsup {u : Unsupported} (h : ∀ g, u ≠ .initOrder g) : LG (.unsupported u)
inductive Bc (P : Program) {α : Type} : Sem α → Prop where
 | halt {h : Halt} : LG h → Bc P (.halt h)
 | program {k : Program → Sem α} : Bc P (k P) → Bc P (.program k)
 | choose {q : Question} {k : Nat → Sem α} : (∀ n, Bc P (k n)) → Bc P (.choose q k)
 | sys {c : Sys} {k : SysRet → Sem α} : (∀ r, Bc P (k r)) → Bc P (.sys c k)
 | new {o : Obj} {k : Nat → Sem α} : (∀ n, Bc P (k n)) → Bc P (.new o k)
 | mark {m : Mark} {k : Sem α} : Bc P k → Bc P (.mark m k)
 | shape {r : Nat} {k : Option (TypeId × Nat) → Sem α} : (∀ s, Bc P (k s)) → Bc P (.shape r k)
 | frozen {a : Addr} {k : Bool → Sem α} : (∀ b, Bc P (k b)) → Bc P (.frozen a k)
theorem Bc.run {P : Program} {α : Type} {s : Sem α} (h : Bc P s) : ∀ w, ∃ x w', s.run P w = .halt x w' ∧ LG x := by
 induction h with
 | halt h => exact fun w => ⟨_, w, rfl, h⟩
 | program _ ih => exact fun w => ih w
 | choose _ ih =>
  rename_i q k _
  intro w
  show ∃ x w', Sem.run P (.choose q k) w = _ ∧ _
  simp only [Sem.run]
  split
  ·exact ih _ _
  ·exact ih _ _
 | sys _ ih => exact fun w => ih _ _
 | new _ ih => exact fun w => ih _ _
 | mark _ ih => exact fun w => ih w
 | shape _ ih => exact fun w => ih _ w
 | frozen _ ih => exact fun w => ih _ w
inductive SR (P : Program) (F : FuncId → Prop) {α β : Type} (Q : Ren → α → β → Prop) : Ren → Sem α → Sem β → Prop where
 | pure {π : Ren} {a : α} {b : β} : Q π a b → SR P F Q π (.pure a) (.pure b)
 | load {π : Ren} {m : Mode} {a a' : Addr} {k : Value → Sem α} {k' : Value → Sem β} : AdR π a a' → (∀ v v', VR F π v v' → SR P F Q π (k v) (k' v')) → SR P F Q π (.load m a k) (.load m a' k')
 | store {π : Ren} {m : Mode} {a a' : Addr} {v v' : Value} {k : Sem α} {k' : Sem β} : AdR π a a' → VR F π v v' → SR P F Q π k k' → SR P F Q π (.store m a v k) (.store m a' v' k')
 | new {π : Ren} {o o' : Obj} {k : Nat → Sem α} {k' : Nat → Sem β} : Fj F π o o' → (∀ π' n n', π.Le π' → π'.to n = some n' → π'.own n → SR P F Q π' (k n) (k' n')) → SR P F Q π (.new o k) (.new o' k')
 | shape {π : Ren} {r r' : Nat} {k : Option (TypeId × Nat) → Sem α} {k' : Option (TypeId × Nat) → Sem β} : π.to r = some r' → (∀ s, SR P F Q π (k s) (k' s)) → SR P F Q π (.shape r k) (.shape r' k')
 | freeze {π : Ren} {a a' : Addr} {n : Nat} {k : Sem α} {k' : Sem β} : AdR π a a' → π.own a.block → SR P F Q π k k' → SR P F Q π (.freeze a n k) (.freeze a' n k')
 | frozen {π : Ren} {a a' : Addr} {k : Bool → Sem α} {k' : Bool → Sem β} : AdR π a a' → (∀ b b', (b' = true → b = true) → SR P F Q π (k b) (k' b')) → SR P F Q π (.frozen a k) (.frozen a' k')
 | frozenR {π : Ren} {s : Sem α} {a' : Addr} {k' : Bool → Sem β} : (∀ b, SR P F Q π s (k' b)) → SR P F Q π s (.frozen a' k')
 | shapeR {π : Ren} {s : Sem α} {r' : Nat} {k' : Option (TypeId × Nat) → Sem β} : (∀ b, SR P F Q π s (k' b)) → SR P F Q π s (.shape r' k')
 | getObj {π : Ren} {r r' : Nat} {k : Obj → Sem α} {k' : Obj → Sem β} : π.to r = some r' → (∀ o o', Fj F π o o' → SR P F Q π (k o) (k' o')) → SR P F Q π (.getObj r k) (.getObj r' k')
 | setObj {π : Ren} {r r' : Nat} {o o' : Obj} {k : Sem α} {k' : Sem β} : π.to r = some r' → Fj F π o o' → SR P F Q π k k' → SR P F Q π (.setObj r o k) (.setObj r' o' k')
 | choose {π : Ren} {q : Question} {k : Nat → Sem α} {k' : Nat → Sem β} : (∀ n, SR P F Q π (k n) (k' n)) → SR P F Q π (.choose q k) (.choose q k')
 | chooseL {π : Ren} {q : Question} {k : Nat → Sem α} {s' : Sem β} (t : Nat) : q.forced = false → SR P F Q π (k (q.cut t)) s' → SR P F Q π (.choose q k) s'
 | program {π : Ren} {k : Program → Sem α} {k' : Program → Sem β} : SR P F Q π (k P) (k' P) → SR P F Q π (.program k) (.program k')
 | room {π : Ren} {k : Sem α} {k' : Sem β} : SR P F Q π k k' → SR P F Q π (.mark .noRoom k) (.mark .noRoom k')
 | extern {π : Ren} {f : FuncId} {k : Sem α} {k' : Sem β} : SR P F Q π k k' → SR P F Q π (.mark (.extern f) k) (.mark (.extern f) k')
 | dead {π : Ren} {s : Sem α} {s' : Sem β} : Bc P s → SR P F Q π s s'
section
variable {F : FuncId → Prop} {π : Ren} {R : Nat → Prop} {v w : World}
theorem WR.same {v' w' : World} (h : WR F π R v w) (hv : v'.heap = v.heap) (hw : w'.heap = w.heap) : WR F π R v' w' :=
 ⟨by rw [hv, hw]; exact h.base, by rw [hv, hw]; exact h.dom, by rw [hv, hw]; exact h.mine, by rw [hv, hw]; exact h.ro⟩
theorem WR.obj (h : WR F π R v w) {r r' : Nat} (hr : π.to r = some r') : ∃ o o', v.heap[r]? = some o ∧ w.heap[r']? = some o' ∧
  ((π.own r ∧ Fj F π o o') ∨ (¬ π.own r ∧ R r' ∧ ∃ c c' e f n, o = .cells c e (0, n) ∧ o' = .cells c' e f ∧ AR (VR F π) c c' ∧ c.size ≤ n ∧ f.2 ≤ n)) := by
 by_cases ho : π.own r
 ·obtain ⟨o, o', h1, h2, h3⟩ := h.mine _ _ hr ho
  exact ⟨o, o', h1, h2, .inl ⟨ho, h3⟩⟩
 ·obtain ⟨h0, c, c', e, f, n, h1, h2, h3⟩ := h.ro _ _ hr ho
  exact ⟨_, _, h1, h2, .inr ⟨ho, h0, c, c', e, f, n, rfl, rfl, h3⟩⟩
theorem WR.row (h : WR F π R v w) {r r' : Nat} (hr : π.to r = some r') {c : Array Value} {e : TypeId} {f : Nat × Nat} (hc : v.heap[r]? = some (.cells c e f)) :
  ∃ c' f', w.heap[r']? = some (.cells c' e f') ∧ AR (VR F π) c c' ∧ (π.own r → f' = f) ∧ (¬ π.own r → R r' ∧ ∃ n, f = (0, n) ∧ c.size ≤ n) := by
 obtain ⟨o, o', h1, h2, h3⟩ := h.obj hr
 rw [h1] at hc; injection hc with hc; subst hc
 rcases h3 with ⟨ho, h3⟩ | ⟨ho, h0, c1, c', e1, f1, n1, h4, rfl, h5, h6, h7⟩
 ·cases h3 with
  | cells e f h => exact ⟨_, _, h2, h, fun _ => rfl, fun n => absurd ho n⟩
 ·injection h4 with a1 a2 a3; subst a1; subst a2; subst a3
  exact ⟨_, _, h2, h5, fun n => absurd n ho, fun _ => ⟨h0, n1, rfl, h6⟩⟩
theorem WR.cell (h : WR F π R v w) {a a' : Addr} (ha : AdR π a a') {x : Value} (hx : v.cell? a = some x) : ∃ x', w.cell? a' = some x' ∧ VR F π x x' := by
 unfold World.cell? at hx
 split at hx
 ·next c e f hc =>
  obtain ⟨c', f', h1, h2, _, _⟩ := h.row ha.1 hc
  split at hx
  ·cases hx
  ·rename_i hs
   obtain ⟨y, hy, hr⟩ := h2.get hx
   refine ⟨y, ?_, hr⟩
   unfold World.cell?
   rw [h1]
   simp only [ha.2.1, ha.2.2]
   rw [if_neg hs]; exact hy
 ·cases hx
theorem WR.noCell (h : WR F π R v w) {r r' : Nat} (hr : π.to r = some r') : (∀ a u, v.heap[r]? ≠ some (.view a u)) ∧ (∀ c e, v.heap[r]? ≠ some (.pending c e)) := by
 obtain ⟨o, o', h1, h2, h3⟩ := h.obj hr
 rw [h1]
 rcases h3 with ⟨ho, h3⟩ | ⟨ho, h0, c1, c', e1, f1, n1, rfl, rfl, h5, h6, h7⟩
 ·cases h3 <;> exact ⟨fun _ _ => by simp, fun _ _ => by simp⟩
 ·exact ⟨fun _ _ => by simp, fun _ _ => by simp⟩
theorem WR.noHalt (h : WR F π R v w) {a a' : Addr} (ha : AdR π a a') (what : String) : LG (v.noCell a what) := by
 obtain ⟨h1, h2⟩ := h.noCell ha.1
 unfold World.noCell
 split
 ·next hx => exact absurd hx (h2 _ _)
 ·next hx => exact absurd hx (h1 _ _)
 ·exact .stuck _
theorem WR.far (h : WR F π R v w) {a a' : Addr} (ha : AdR π a a') (P : Program) (at_ : Bool) : ∃ e, v.farLoad P a at_ = .error e ∧ LG e := by
 obtain ⟨h1, h2⟩ := h.noCell ha.1
 unfold World.farLoad
 split
 ·next hx => exact absurd hx (h1 _ _)
 ·exact ⟨_, rfl, h.noHalt ha _⟩
theorem WR.farS (h : WR F π R v w) {a a' : Addr} (ha : AdR π a a') (P : Program) (y : Value) (at_ : Bool) : ∃ e, v.farStore P a y at_ = .error e ∧ LG e := by
 obtain ⟨h1, h2⟩ := h.noCell ha.1
 unfold World.farStore
 split
 ·next hx => exact absurd hx (h1 _ _)
 ·exact ⟨_, rfl, h.noHalt ha _⟩
theorem WR.shape (h : WR F π R v w) {r r' : Nat} (hr : π.to r = some r') : w.shape? r' = v.shape? r := by
 obtain ⟨o, o', h1, h2, h3⟩ := h.obj hr
 unfold World.shape?
 rw [h1, h2]
 rcases h3 with ⟨ho, h3⟩ | ⟨ho, h0, c1, c', e1, f1, n1, rfl, rfl, h5, h6, h7⟩
 ·cases h3 with
  | cells e f h => simp [h.1]
  | _ => rfl
 ·simp [h5.1]
theorem WR.frozen (h : WR F π R v w) {a a' : Addr} (ha : AdR π a a') : (π.own a.block → w.frozen? a' = v.frozen? a) ∧ (w.frozen? a' = true → v.frozen? a = true) := by
 obtain ⟨o, o', h1, h2, h3⟩ := h.obj ha.1
 unfold World.frozen?
 rw [h1, h2]
 rcases h3 with ⟨ho, h3⟩ | ⟨ho, h0, c1, c', e1, f1, n1, rfl, rfl, h5, h6, h7⟩
 ·cases h3 with
  | cells e f h => simp only [ha.2.1]; exact ⟨fun _ => trivial, fun h => h⟩
  | _ => exact ⟨fun _ => rfl, fun h => by simp at h⟩
 ·refine ⟨fun n => absurd n ho, fun hf => ?_⟩
  obtain ⟨lo, hi⟩ := f1
  simp only [ha.2.1, Bool.and_eq_true, decide_eq_true_eq] at hf h7 ⊢
  omega
end
theorem CX (w : World) (a : Addr) (y : Value) (k : Nat) (hk : k ≠ a.block) : (w.setCell a y).heap[k]? = w.heap[k]? := by
 unfold World.setCell
 simp only [Array.getElem?_modify]
 rw [if_neg (fun e => hk e.symm)]
theorem Ay.setCell {M : Nat → Prop} {w : World} {a : Addr} (hm : M a.block) (y : Value) : Ay M w (w.setCell a y) :=
 ⟨by simp [World.setCell], fun k hk _ => CX _ _ _ _ fun e => hk (e ▸ hm), rfl, rfl, rfl⟩
theorem Ay.trans {M : Nat → Prop} {a b c : World} (h : Ay M a b) (k : Ay (grown M a.heap.size b.heap.size) b c) : Ay M a c :=
 ⟨Nat.le_trans h.size k.size, fun j hj hl => (k.rest j (fun e => e.elim hj fun e => by omega) (by have := h.size; omega)).trans (h.rest j hj hl), k.tape.trans h.tape, k.os.trans h.os, k.out.trans h.out⟩
theorem BZ.mono {M M' R : Nat → Prop} {e : Event} (h : BZ M R e) (hm : ∀ k, M k → M' k) : BZ M' R e := by
 unfold BZ at h ⊢
 split at h
 ·exact h.elim (fun h => .inl (hm _ h)) .inr
 ·exact hm _ h
 ·exact h
 ·exact h
theorem QG {M : Nat → Prop} {n a b : Nat} (h : a ≤ b) : ∀ k, grown M n a k → grown M n b k := fun k hk => hk.elim .inl fun h' => .inr ⟨h'.1, by omega⟩
def Ren.put (π : Ren) (n n' : Nat) (hb : π.base ≤ n ∧ π.base ≤ n') (h : ∀ k, π.to k ≠ some n') : Ren where
 to := fun k => if k = n then some n' else π.to k
 own := fun k => k = n ∨ π.own k
 base := π.base
 low := fun a c ha hl => by
  by_cases e1 : a = n <;> simp only [e1, if_true, if_false] at ha
  ·injection ha with ha; omega
  ·exact π.low _ _ ha hl
 inj := fun a b c ha hb => by
  by_cases e1 : a = n <;> by_cases e2 : b = n <;> simp only [e1, e2, if_true, if_false] at ha hb ⊢
  ·injection ha with ha; subst ha; exact absurd hb (h _)
  ·injection hb with hb; subst hb; exact absurd ha (h _)
  ·exact π.inj _ _ _ ha hb
section
variable {F : FuncId → Prop} {π : Ren} {R : Nat → Prop} {v w : World}
theorem WR.new (h : WR F π R v w) {o o' : Obj} (ho : Fj F π o o') (hn : ∀ k, π.to k ≠ some w.heap.size) (hv : π.to v.heap.size = none) :
  π.Le (π.put v.heap.size w.heap.size h.base hn) ∧ WR F (π.put v.heap.size w.heap.size h.base hn) R { v with heap := v.heap.push o } { w with heap := w.heap.push o' } := by
 have hle : π.Le (π.put v.heap.size w.heap.size h.base hn) := by
  refine ⟨fun a c e => ?_, fun a e => .inr e, rfl⟩
  show (if a = v.heap.size then _ else _) = _
  rw [if_neg (fun e' => by subst e'; rw [hv] at e; cases e)]; exact e
 have old : ∀ k k', (π.put v.heap.size w.heap.size h.base hn).to k = some k' → (k = v.heap.size ∧ k' = w.heap.size) ∨ (k ≠ v.heap.size ∧ π.to k = some k') := by
  intro k k' e
  have e : (if k = v.heap.size then some w.heap.size else π.to k) = some k' := e
  split at e
  ·injection e with e; exact .inl ⟨‹_›, e.symm⟩
  ·exact .inr ⟨‹_›, e⟩
 refine ⟨hle, ⟨by have := h.base; show π.base ≤ _ ∧ π.base ≤ _; simp; omega, fun k k' e => ?_, fun k k' e eo => ?_, fun k k' e eo => ?_⟩⟩
 ·rcases old k k' e with ⟨rfl, rfl⟩ | ⟨h1, h2⟩
  ·simp
  ·have := h.dom _ _ h2; simp; omega
 ·rcases old k k' e with ⟨rfl, rfl⟩ | ⟨h1, h2⟩
  ·exact ⟨o, o', by simp, by simp, ho.mono hle⟩
  ·obtain ⟨x, x', e1, e2, e3⟩ := h.mine _ _ h2 (eo.resolve_left h1)
   have hd := h.dom _ _ h2
   refine ⟨x, x', ?_, ?_, e3.mono hle⟩
   ·simp only [Array.getElem?_push]; rw [if_neg (by omega)]; exact e1
   ·simp only [Array.getElem?_push]; rw [if_neg (by omega)]; exact e2
 ·rcases old k k' e with ⟨rfl, rfl⟩ | ⟨h1, h2⟩
  ·exact absurd (.inl rfl) eo
  ·obtain ⟨h0, c, c', e', f, n, e1, e2, e3, e4⟩ := h.ro _ _ h2 (fun x => eo (.inr x))
   have hd := h.dom _ _ h2
   refine ⟨h0, c, c', e', f, n, ?_, ?_, e3.mono fun _ _ x => x.mono hle, e4⟩
   ·simp only [Array.getElem?_push]; rw [if_neg (by omega)]; exact e1
   ·simp only [Array.getElem?_push]; rw [if_neg (by omega)]; exact e2
theorem WR.change (h : WR F π R v w) {r r' : Nat} (hr : π.to r = some r') (ho : π.own r) {v' w' : World} (hvs : v'.heap.size = v.heap.size) (hws : w'.heap.size = w.heap.size)
  (hv : ∀ k, k ≠ r → v'.heap[k]? = v.heap[k]?) (hw : ∀ k, k ≠ r' → w'.heap[k]? = w.heap[k]?) (hn : ∃ o o', v'.heap[r]? = some o ∧ w'.heap[r']? = some o' ∧ Fj F π o o') : WR F π R v' w' := by
 refine ⟨by rw [hvs, hws]; exact h.base, fun k k' e => by rw [hvs, hws]; exact h.dom _ _ e, fun k k' e eo => ?_, fun k k' e eo => ?_⟩
 ·by_cases hk : k = r
  ·subst hk
   have := Option.some.inj (e.symm.trans hr)
   subst this
   exact hn
  ·have hk' : k' ≠ r' := fun e' => hk (π.inj _ _ _ e (e' ▸ hr))
   rw [hv _ hk, hw _ hk']; exact h.mine _ _ e eo
 ·have hk : k ≠ r := fun e' => eo (e' ▸ ho)
  have hk' : k' ≠ r' := fun e' => hk (π.inj _ _ _ e (e' ▸ hr))
  rw [hv _ hk, hw _ hk']; exact h.ro _ _ e eo
theorem WR.setCell (h : WR F π R v w) {a a' : Addr} (ha : AdR π a a') (ho : π.own a.block) {y y' : Value} (hy : VR F π y y') : WR F π R (v.setCell a y) (w.setCell a' y') := by
 refine h.change ha.1 ho (by simp [World.setCell]) (by simp [World.setCell]) (fun k hk => CX _ _ _ _ hk) (fun k hk => CX _ _ _ _ hk) ?_
 obtain ⟨o, o', e1, e2, e3⟩ := h.mine _ _ ha.1 ho
 unfold World.setCell
 simp only [Array.getElem?_modify, if_true, e1, e2, Option.map_some]
 refine ⟨_, _, rfl, rfl, ?_⟩
 cases e3 with
 | cells e f k =>
  simp only [ha.2.1, ha.2.2]
  split
  ·exact .cells e f k
  ·exact .cells e f (k.set _ hy)
 | map n k => exact .map n k
 | stringIter s p => exact .stringIter s p
 | mapIter0 s l n => exact .mapIter0 s l n
 | mapIter s l n k => exact .mapIter s l n k
 | number l k => exact .number l k
theorem WR.setObj (h : WR F π R v w) {r r' : Nat} (hr : π.to r = some r') (ho : π.own r) {o o' : Obj} (hy : Fj F π o o') :
  WR F π R { v with heap := v.heap.setIfInBounds r o } { w with heap := w.heap.setIfInBounds r' o' } := by
 have hd := h.dom _ _ hr
 refine h.change hr ho (by simp) (by simp) (fun k hk => ?_) (fun k hk => ?_) ⟨o, o', ?_, ?_, hy⟩
 ·simp only [Array.getElem?_setIfInBounds]; rw [if_neg (fun e => hk e.symm)]
 ·simp only [Array.getElem?_setIfInBounds]; rw [if_neg (fun e => hk e.symm)]
 ·simp only [Array.getElem?_setIfInBounds]; simp [hd.1]
 ·simp only [Array.getElem?_setIfInBounds]; simp [hd.2]
theorem Gl (w : World) (a : Addr) (n k : Nat) (hk : k ≠ a.block) : (w.freeze a n).heap[k]? = w.heap[k]? := by
 unfold World.freeze
 split
 ·rfl
 ·simp only [Array.getElem?_modify]
  rw [if_neg (fun e => hk e.symm)]
theorem EX (w : World) (a : Addr) (n : Nat) : (w.freeze a n).heap.size = w.heap.size := by
 unfold World.freeze; split <;> simp
theorem GY (w : World) (a : Addr) (n : Nat) : (w.freeze a n).tape = w.tape ∧ (w.freeze a n).os = w.os ∧ (w.freeze a n).output = w.output ∧ (w.freeze a n).drawn = w.drawn := by
 unfold World.freeze; split <;> exact ⟨rfl, rfl, rfl, rfl⟩
theorem Sr (w : World) (a : Addr) (n : Nat) (t : Nat → Question → Nat) : (w.tp t).freeze a n = (w.freeze a n).tp t := by
 unfold World.freeze World.tp; split <;> rfl
theorem WR.freeze (h : WR F π R v w) {a a' : Addr} (ha : AdR π a a') (ho : π.own a.block) (n : Nat) : WR F π R (v.freeze a n) (w.freeze a' n) := by
 refine h.change ha.1 ho (EX _ _ _) (EX _ _ _) (fun k hk => Gl _ _ _ _ hk) (fun k hk => Gl _ _ _ _ hk) ?_
 obtain ⟨o, o', e1, e2, e3⟩ := h.mine _ _ ha.1 ho
 unfold World.freeze
 by_cases hn : n = 0
 ·simp only [hn, if_true]; exact ⟨o, o', e1, e2, e3⟩
 ·simp only [hn, if_false, Array.getElem?_modify, if_true, e1, e2, Option.map_some]
  refine ⟨_, _, rfl, rfl, ?_⟩
  cases e3 with
  | cells e f k => obtain ⟨lo, hi⟩ := f; simp only [ha.2.1]; exact .cells e _ k
  | map n k => exact .map n k
  | stringIter s p => exact .stringIter s p
  | mapIter0 s l n => exact .mapIter0 s l n
  | mapIter s l n k => exact .mapIter s l n k
  | number l k => exact .number l k
end
def Dp (P : Program) (F : FuncId → Prop) {α β : Type} (Q : Ren → α → β → Prop) (R M : Nat → Prop) (π : Ren) (v w : World) (t : Nat → Question → Nat) (s : Sem α) (s' : Sem β) (es : Array Event) : Prop :=
 (∃ x v1, s.run P (v.tp t) = .halt x v1 ∧ LG x) ∨
 ∃ a v1, s.run P (v.tp t) = .ok a v1 ∧ v.drawn ≤ v1.drawn ∧ v1.tape = t ∧ (∀ t2, (∀ j, j < v1.drawn → t2 j = t j) → s.run P (v.tp t2) = .ok a (v1.tp t2)) ∧
  ∃ π' b w1 u, s'.runT P w es = (.ok b w1, es ++ u) ∧ π.Le π' ∧ Q π' a b ∧ WR F π' R v1 w1 ∧ Ay M w w1 ∧ (∀ e ∈ u, BZ (grown M w.heap.size w1.heap.size) R e) ∧
   (∀ k k', π'.to k = some k' → π'.own k → grown M w.heap.size w1.heap.size k') ∧ v.heap.size ≤ v1.heap.size
section
variable {P : Program} {F : FuncId → Prop} {α β : Type} {Q : Ren → α → β → Prop} {R M : Nat → Prop} {π : Ren} {v w : World}
theorem Dp.step {π2 : Ren} {v2 w2 : World} {s k : Sem α} {s' k' : Sem β} {es p : Array Event} (hπ : π.Le π2)
  (hl : ∀ t, (∀ j, j < v2.drawn → t j = v2.tape j) → s.run P (v.tp t) = k.run P (v2.tp t)) (hd : v.drawn ≤ v2.drawn) (ht : ∀ j, j < v.drawn → v2.tape j = v.tape j) (hz : v.heap.size ≤ v2.heap.size)
  (hr : s'.runT P w es = k'.runT P w2 (es ++ p)) (hsp : Ay M w w2) (hp : ∀ e ∈ p, BZ (grown M w.heap.size w2.heap.size) R e)
  (h : ∃ t, (∀ j, j < v2.drawn → t j = v2.tape j) ∧ Dp P F Q R (grown M w.heap.size w2.heap.size) π2 v2 w2 t k k' (es ++ p)) :
  ∃ t, (∀ j, j < v.drawn → t j = v.tape j) ∧ Dp P F Q R M π v w t s s' es := by
 obtain ⟨t, h1, h2⟩ := h
 refine ⟨t, fun j hj => (h1 j (by omega)).trans (ht j hj), ?_⟩
 rcases h2 with ⟨x, v1, h3, h4⟩ | ⟨a, v1, h3, h4, h5, h6, π', b, w1, u, h7, h8, h9, h10, h11, h12, h13, h14⟩
 ·exact .inl ⟨x, v1, by rw [hl t h1]; exact h3, h4⟩
 ·have hg := Pf (M := M) hsp.size h11.size
  refine .inr ⟨a, v1, by rw [hl t h1]; exact h3, by omega, h5, fun t2 e => ?_, π', b, w1, p ++ u, by rw [hr, h7, Array.append_assoc], hπ.trans h8, h9, h10, hsp.trans h11, fun e he => ?_, fun k k' e1 e2 => hg ▸ h13 k k' e1 e2, by omega⟩
  ·rw [hl t2 fun j hj => (e j (by omega)).trans (h1 j hj)]
   exact h6 t2 e
  ·rcases Array.mem_append.1 he with he | he
   ·exact (hp e he).mono (QG h11.size)
   ·have := h12 e he
    rwa [hg] at this
theorem Dp.bad {s : Sem α} {s' : Sem β} {es : Array Event} {x : Halt} {v1 : World} (h : s.run P v = .halt x v1) (hb : LG x) : ∃ t, (∀ j, j < v.drawn → t j = v.tape j) ∧ Dp P F Q R M π v w t s s' es :=
 ⟨v.tape, fun _ _ => rfl, .inl ⟨x, v1, h, hb⟩⟩
theorem Fw (es : Array Event) (e : Event) : es.push e = es ++ #[e] := by rw [Array.push_eq_append]
theorem KT {γ : Type} {m : Mode} {p : Addr} {y : Value} {k : Sem γ} (hy : ¬ ((∃ l, y = .agg l) ∨ (∃ l, y = .tuple l))) (W : World) : (Sem.store m p y k).run P W = match W.cell? p with
  | some _ => if W.frozen? p then .halt (.unsupported (.unsafePointer "a write to bytes that a string shares")) W else k.run P (W.setCell p y)
  | none => match W.farStore P p y (m == .atomic) with
   | .ok (w, _) => k.run P w
   | .error h => .halt h W := by
 cases y <;> first | rfl | exact absurd (.inl ⟨_, rfl⟩) hy | exact absurd (.inr ⟨_, rfl⟩) hy
theorem Qi {γ : Type} {m : Mode} {p : Addr} {y : Value} {k : Sem γ} (hy : ¬ ((∃ l, y = .agg l) ∨ (∃ l, y = .tuple l))) (W : World) (es : Array Event) : (Sem.store m p y k).runT P W es = match W.cell? p with
  | some _ => if W.frozen? p then (.halt (.unsupported (.unsafePointer "a write to bytes that a string shares")) W, es) else k.runT P (W.setCell p y) (es.push ⟨.cell p, true, m == .atomic⟩)
  | none => match W.farStore P p y (m == .atomic) with
   | .ok (w, touched) => k.runT P w (es ++ touched.toArray.map (⟨.cell ·, true, m == .atomic⟩))
   | .error h => (.halt h W, es) := by
 cases y <;> first | rfl | exact absurd (.inl ⟨_, rfl⟩) hy | exact absurd (.inr ⟨_, rfl⟩) hy
theorem SR.run {s : Sem α} {s' : Sem β} (h : SR P F Q π s s') : ∀ {v w : World} {M : Nat → Prop} {es : Array Event}, WR F π R v w → (∀ k k', π.to k = some k' → π.own k → M k') →
  ∃ t, (∀ j, j < v.drawn → t j = v.tape j) ∧ Dp P F Q R M π v w t s s' es := by
 induction h with
 | pure hq =>
  rename_i π a b
  intro v w M es hW hM
  exact ⟨v.tape, fun _ _ => rfl, .inr ⟨a, v, rfl, Nat.le_refl _, rfl, fun _ _ => rfl, π, b, w, #[], by simp [Sem.runT], Ren.Le.refl _, hq, hW, Ay.refl _ _, fun e he => by simp at he, fun k k' e1 e2 => .inl (hM k k' e1 e2), Nat.le_refl _⟩⟩
 | load ha hk ih =>
  rename_i π m a a' k k'
  intro v w M es hW hM
  rcases hx : v.cell? a with _ | x
  ·obtain ⟨e, he, hb⟩ := hW.far ha P (m == .atomic)
   refine Dp.bad (x := e) (v1 := v) ?_ hb
   simp only [Sem.run, hx, he]
  ·obtain ⟨x', hx', hr⟩ := hW.cell ha hx
   refine Dp.step (Ren.Le.refl _) (v2 := v) (w2 := w) (p := #[⟨.cell a', false, m == .atomic⟩]) (k := k x) (k' := k' x') (fun t ht => ?_) (Nat.le_refl _) (fun _ _ => rfl) (Nat.le_refl _) ?_ (Ay.refl _ _) (fun e he => ?_) (ih x x' hr hW fun k k' e1 e2 => .inl (hM k k' e1 e2))
   ·have : (v.tp t).cell? a = some x := hx
    simp only [Sem.run, this]
   ·simp only [Sem.runT, hx', Fw]
   ·simp only [List.mem_toArray, List.mem_singleton] at he
    subst he
    obtain ⟨o, o', h1, h2, h3⟩ := hW.obj ha.1
    rcases h3 with ⟨h3, _⟩ | ⟨_, h3, _⟩
    ·exact .inl (.inl (hM _ _ ha.1 h3))
    ·exact .inr ⟨h3, rfl⟩
 | store ha hy hk ih =>
  rename_i π m a a' y y' k k'
  intro v w M es hW hM
  by_cases hyy : (∃ l, y = .agg l) ∨ (∃ l, y = .tuple l)
  ·rcases hyy with ⟨l, rfl⟩ | ⟨l, rfl⟩ <;> exact Dp.bad (v1 := v) (by simp only [Sem.run]; rfl) (.stuck _)
  have hyy' : ¬ ((∃ l, y' = .agg l) ∨ (∃ l, y' = .tuple l)) := by
   intro e
   cases hy <;> simp_all
  rcases hx : v.cell? a with _ | x
  ·obtain ⟨e, he, hb⟩ := hW.farS ha P y (m == .atomic)
   refine Dp.bad (x := e) (v1 := v) ?_ hb
   rw [KT hyy]
   simp only [hx, he]
  ·obtain ⟨x', hx', hr⟩ := hW.cell ha hx
   cases hf : v.frozen? a with
   | true =>
    refine Dp.bad (v1 := v) ?_ (.unsup (u := .unsafePointer "a write to bytes that a string shares") (by simp))
    rw [KT hyy]
    simp only [hx, hf, if_true]
   | false =>
    have ho : π.own a.block := by
     obtain ⟨o, o', h1, h2, h3⟩ := hW.obj ha.1
     rcases h3 with ⟨h3, _⟩ | ⟨_, _, c, c', e, f, n, rfl, _, _, hn, _⟩
     ·exact h3
     ·exfalso
      unfold World.cell? at hx; unfold World.frozen? at hf
      rw [h1] at hx hf
      simp only at hx hf
      split at hx
      ·cases hx
      have := (Array.getElem?_eq_some_iff.1 hx).1
      simp at hf; omega
    have hf' : w.frozen? a' = false := by rw [(hW.frozen ha).1 ho]; exact hf
    have hsz : (w.setCell a' y').heap.size = w.heap.size := by simp [World.setCell]
    refine Dp.step (Ren.Le.refl _) (v2 := v.setCell a y) (w2 := w.setCell a' y') (p := #[⟨.cell a', true, m == .atomic⟩]) (k := k) (k' := k') (fun t ht => ?_) (Nat.le_refl _) (fun _ _ => rfl) (by simp [World.setCell]) ?_ (Ay.setCell (hM _ _ ha.1 ho) _) (fun e he => ?_) (ih (hW.setCell ha ho hy) fun k k' e1 e2 => .inl (hM k k' e1 e2))
    ·rw [KT hyy]
     have h1 : (v.tp t).cell? a = some x := hx
     have h2 : (v.tp t).frozen? a = false := hf
     simp only [h1, h2]
     rfl
    ·rw [Qi hyy']
     simp only [hx', hf', Fw]
     rfl
    ·simp only [List.mem_toArray, List.mem_singleton] at he
     subst he
     exact .inl (.inl (hM _ _ ha.1 ho))
 | new ho hk ih =>
  rename_i π o o' k k'
  intro v w M es hW hM
  have hn : ∀ k, π.to k ≠ some w.heap.size := fun k e => by have := (hW.dom _ _ e).2; omega
  have hv : π.to v.heap.size = none := by
   rcases e : π.to v.heap.size with _ | c
   ·rfl
   ·have := (hW.dom _ _ e).1; omega
  obtain ⟨hle, hW'⟩ := hW.new ho hn hv
  refine Dp.step hle (v2 := { v with heap := v.heap.push o }) (w2 := { w with heap := w.heap.push o' }) (p := #[]) (k := k v.heap.size) (k' := k' w.heap.size) (fun t ht => rfl) (Nat.le_refl _) (fun _ _ => rfl) (by simp) (by simp only [Sem.runT, Array.append_empty]) ?_ (fun e he => by simp at he)
   (ih _ _ _ hle (by show (if _ = _ then _ else _) = _; simp) (.inl rfl) hW' fun j j' e1 e2 => ?_)
  ·exact ⟨by simp, fun j hj hl => by simp only [Array.getElem?_push]; rw [if_neg (by omega)], rfl, rfl, rfl⟩
  ·have e1 : (if j = v.heap.size then some w.heap.size else π.to j) = some j' := e1
   split at e1
   ·injection e1 with e1; subst e1; exact .inr ⟨Nat.le_refl _, by simp⟩
   ·exact .inl (hM j j' e1 (e2.resolve_left ‹_›))
 | shape hr hk ih =>
  rename_i π r r' k k'
  intro v w M es hW hM
  refine Dp.step (Ren.Le.refl _) (v2 := v) (w2 := w) (p := #[]) (k := k (v.shape? r)) (k' := k' (v.shape? r)) (fun t ht => rfl) (Nat.le_refl _) (fun _ _ => rfl) (Nat.le_refl _) ?_ (Ay.refl _ _) (fun e he => by simp at he) (ih _ hW fun k k' e1 e2 => .inl (hM k k' e1 e2))
  simp only [Sem.runT, Array.append_empty, hW.shape hr]
 | freeze ha ho hk ih =>
  rename_i π a a' n k k'
  intro v w M es hW hM
  obtain ⟨f1, f2, f3, f4⟩ := GY w a' n
  obtain ⟨g1, g2, g3, g4⟩ := GY v a n
  refine Dp.step (Ren.Le.refl _) (v2 := v.freeze a n) (w2 := w.freeze a' n) (p := #[]) (k := k) (k' := k') (fun t ht => ?_) (by rw [g4]; exact Nat.le_refl _) (fun _ _ => by rw [g1]) (by rw [EX]; exact Nat.le_refl _) ?_ ?_ (fun e he => by simp at he) (ih (hW.freeze ha ho n) fun k k' e1 e2 => .inl (hM k k' e1 e2))
  ·simp only [Sem.run, Sr]
  ·simp only [Sem.runT, Array.append_empty]
  ·exact ⟨by rw [EX]; exact Nat.le_refl _, fun j hj hl => Gl _ _ _ _ fun e => hj (e ▸ hM _ _ ha.1 ho), f1, f2, f3⟩
 | frozen ha hk ih =>
  rename_i π a a' k k'
  intro v w M es hW hM
  refine Dp.step (Ren.Le.refl _) (v2 := v) (w2 := w) (p := #[]) (k := k (v.frozen? a)) (k' := k' (w.frozen? a')) (fun t ht => rfl) (Nat.le_refl _) (fun _ _ => rfl) (Nat.le_refl _) ?_ (Ay.refl _ _) (fun e he => by simp at he) (ih _ _ (hW.frozen ha).2 hW fun k k' e1 e2 => .inl (hM k k' e1 e2))
  simp only [Sem.runT, Array.append_empty]
 | frozenR hk ih =>
  rename_i π s a' k'
  intro v w M es hW hM
  exact Dp.step (Ren.Le.refl _) (v2 := v) (w2 := w) (p := #[]) (k := s) (k' := k' (w.frozen? a')) (fun t ht => rfl) (Nat.le_refl _) (fun _ _ => rfl) (Nat.le_refl _) (by simp only [Sem.runT, Array.append_empty]) (Ay.refl _ _) (fun e he => by simp at he) (ih _ hW fun k k' e1 e2 => .inl (hM k k' e1 e2))
 | shapeR hk ih =>
  rename_i π s r' k'
  intro v w M es hW hM
  exact Dp.step (Ren.Le.refl _) (v2 := v) (w2 := w) (p := #[]) (k := s) (k' := k' (w.shape? r')) (fun t ht => rfl) (Nat.le_refl _) (fun _ _ => rfl) (Nat.le_refl _) (by simp only [Sem.runT, Array.append_empty]) (Ay.refl _ _) (fun e he => by simp at he) (ih _ hW fun k k' e1 e2 => .inl (hM k k' e1 e2))
 | getObj hr hk ih =>
  rename_i π r r' k k'
  intro v w M es hW hM
  obtain ⟨o, o', h1, h2, h3⟩ := hW.obj hr
  rcases h3 with ⟨ho, h3⟩ | ⟨ho, h0, c, c', e, f, n, rfl, rfl, _⟩
  ·by_cases hc : ∃ c e f, o = .cells c e f
   ·obtain ⟨c, e, f, rfl⟩ := hc
    exact Dp.bad (v1 := v) (by simp only [Sem.run, h1]; rfl) (.stuck _)
   ·refine Dp.step (Ren.Le.refl _) (v2 := v) (w2 := w) (p := #[⟨.obj r', false, o'.isChan⟩]) (k := k o) (k' := k' o') (fun t ht => ?_) (Nat.le_refl _) (fun _ _ => rfl) (Nat.le_refl _) ?_ (Ay.refl _ _) (fun e he => ?_) (ih o o' h3 hW fun k k' e1 e2 => .inl (hM k k' e1 e2))
    ·have e1 : (v.tp t).heap[r]? = some o := h1
     simp only [Sem.run, e1]
     cases h3 <;> first | rfl | exact absurd ⟨_, _, _, rfl⟩ hc
    ·simp only [Sem.runT, h2, Fw]
     cases h3 <;> first | rfl | exact absurd ⟨_, _, _, rfl⟩ hc
    ·simp only [List.mem_toArray, List.mem_singleton] at he
     subst he
     exact .inl (hM _ _ hr ho)
  ·exact Dp.bad (v1 := v) (by simp only [Sem.run, h1]; rfl) (.stuck _)
 | setObj hr hn hk ih =>
  rename_i π r r' n n' k k'
  intro v w M es hW hM
  obtain ⟨o, o', h1, h2, h3⟩ := hW.obj hr
  rcases h3 with ⟨ho, h3⟩ | ⟨ho, h0, c, c', e, f, n, rfl, rfl, _⟩
  ·by_cases hc : ∃ c e f, o = .cells c e f
   ·obtain ⟨c, e, f, rfl⟩ := hc
    exact Dp.bad (v1 := v) (by simp only [Sem.run, h1]; rfl) (.stuck _)
   ·refine Dp.step (Ren.Le.refl _) (v2 := { v with heap := v.heap.setIfInBounds r n }) (w2 := { w with heap := w.heap.setIfInBounds r' n' }) (p := #[⟨.obj r', true, n'.isChan⟩]) (k := k) (k' := k') (fun t ht => ?_) (Nat.le_refl _) (fun _ _ => rfl) (by simp) ?_ ?_ (fun e he => ?_) (ih (hW.setObj hr ho hn) fun k k' e1 e2 => .inl (hM k k' e1 e2))
    ·have e1 : (v.tp t).heap[r]? = some o := h1
     simp only [Sem.run, e1]
     cases h3 <;> first | rfl | exact absurd ⟨_, _, _, rfl⟩ hc
    ·simp only [Sem.runT, h2, Fw]
     cases h3 <;> first | rfl | exact absurd ⟨_, _, _, rfl⟩ hc
    ·refine ⟨by simp, fun j hj hl => ?_, rfl, rfl, rfl⟩
     simp only [Array.getElem?_setIfInBounds]
     have hm : ¬ r' = j := fun e => hj (e ▸ hM _ _ hr ho)
     rw [if_neg hm]
    ·simp only [List.mem_toArray, List.mem_singleton] at he
     subst he
     exact Or.inl (hM _ _ hr ho)
  ·exact Dp.bad (v1 := v) (by simp only [Sem.run, h1]; rfl) (.stuck _)
 | choose hk ih =>
  rename_i π q k k'
  intro v w M es hW hM
  cases hf : q.forced with
  | true =>
   refine Dp.step (Ren.Le.refl _) (v2 := v) (w2 := w) (p := #[]) (k := k 0) (k' := k' 0) (fun t ht => ?_) (Nat.le_refl _) (fun _ _ => rfl) (Nat.le_refl _) ?_ (Ay.refl _ _) (fun e he => by simp at he) (ih 0 hW fun k k' e1 e2 => .inl (hM k k' e1 e2))
   ·simp only [Sem.run, hf, if_true]
   ·simp only [Sem.runT, hf, if_true, Array.append_empty]
  | false =>
   refine Dp.step (Ren.Le.refl _) (v2 := { v with tape := fun j => if j = v.drawn then w.tape w.drawn else v.tape j, drawn := v.drawn + 1 }) (w2 := { w with drawn := w.drawn + 1 }) (p := #[]) (k := k (q.cut (w.tape w.drawn q))) (k' := k' (q.cut (w.tape w.drawn q))) (fun t ht => ?_) (Nat.le_succ _) (fun j hj => if_neg (by omega)) (Nat.le_refl _) ?_ ⟨Nat.le_refl _, fun _ _ _ => rfl, rfl, rfl, rfl⟩ (fun e he => by simp at he) (ih _ (hW.same rfl rfl) fun k k' e1 e2 => .inl (hM k k' e1 e2))
   ·have e1 : t v.drawn = w.tape w.drawn := by rw [ht v.drawn (Nat.lt_succ_self _)]; simp
    simp only [Sem.run, hf]
    show Sem.run P (k (q.cut (t v.drawn q))) _ = _
    rw [e1]; rfl
   ·simp only [Sem.runT, hf, Array.append_empty]; rfl
 | chooseL t0 hf hk ih =>
  rename_i π q k s'
  intro v w M es hW hM
  refine Dp.step (Ren.Le.refl _) (v2 := { v with tape := fun j => if j = v.drawn then fun _ => t0 else v.tape j, drawn := v.drawn + 1 }) (w2 := w) (p := #[]) (k := k (q.cut t0)) (k' := s') (fun t ht => ?_) (Nat.le_succ _) (fun j hj => if_neg (by omega)) (Nat.le_refl _) (by rw [Array.append_empty]) (Ay.refl _ _) (fun e he => by simp at he) (ih (hW.same rfl rfl) fun k k' e1 e2 => .inl (hM k k' e1 e2))
  have e1 : t v.drawn = fun _ => t0 := by rw [ht v.drawn (Nat.lt_succ_self _)]; simp
  simp only [Sem.run, hf]
  show Sem.run P (k (q.cut (t v.drawn q))) _ = _
  rw [e1]; rfl
 | program hk ih =>
  rename_i π k k'
  intro v w M es hW hM
  exact Dp.step (Ren.Le.refl _) (v2 := v) (w2 := w) (p := #[]) (k := k P) (k' := k' P) (fun t ht => rfl) (Nat.le_refl _) (fun _ _ => rfl) (Nat.le_refl _) (by simp only [Sem.runT, Array.append_empty]) (Ay.refl _ _) (fun e he => by simp at he) (ih hW fun k k' e1 e2 => .inl (hM k k' e1 e2))
 | room hk ih =>
  rename_i π k k'
  intro v w M es hW hM
  refine Dp.step (Ren.Le.refl _) (v2 := v) (w2 := w) (p := #[⟨.mark .noRoom, false, true⟩]) (k := k) (k' := k') (fun t ht => rfl) (Nat.le_refl _) (fun _ _ => rfl) (Nat.le_refl _) (by simp only [Sem.runT, Fw]) (Ay.refl _ _) (fun e he => ?_) (ih hW fun k k' e1 e2 => .inl (hM k k' e1 e2))
  simp only [List.mem_toArray, List.mem_singleton] at he
  subst he
  exact Or.inl rfl
 | extern hk ih =>
  rename_i π f k k'
  intro v w M es hW hM
  refine Dp.step (Ren.Le.refl _) (v2 := v) (w2 := w) (p := #[⟨.mark (.extern f), false, true⟩]) (k := k) (k' := k') (fun t ht => rfl) (Nat.le_refl _) (fun _ _ => rfl) (Nat.le_refl _) (by simp only [Sem.runT, Fw]) (Ay.refl _ _) (fun e he => ?_) (ih hW fun k k' e1 e2 => .inl (hM k k' e1 e2))
  simp only [List.mem_toArray, List.mem_singleton] at he
  subst he
  exact Or.inr ⟨f, rfl⟩
 | dead hd =>
  intro v w M es hW hM
  obtain ⟨x, v1, h1, h2⟩ := hd.run v
  exact Dp.bad h1 h2
end
theorem Bc.bind {P : Program} {α β : Type} {s : Sem α} (h : Bc P s) (f : α → Sem β) : Bc P (s >>= f) := by
 show Bc P (s.bind f)
 induction h with
 | halt h => exact .halt h
 | program _ ih => exact .program ih
 | choose _ ih => exact .choose ih
 | sys _ ih => exact .sys ih
 | new _ ih => exact .new ih
 | mark _ ih => exact .mark ih
 | shape _ ih => exact .shape ih
 | frozen _ ih => exact .frozen ih
theorem bind_assoc' {α β δ : Type} : ∀ (s : Sem α) (g : α → Sem β) (h : β → Sem δ), (s.bind g).bind h = s.bind fun x => (g x).bind h
 | .pure a, g, h => rfl
 | .load m a k, g, h => congrArg (Sem.load m a) (funext fun v => bind_assoc' (k v) g h)
 | .store m a v k, g, h => congrArg (Sem.store m a v) (bind_assoc' k g h)
 | .new o k, g, h => congrArg (Sem.new o) (funext fun v => bind_assoc' (k v) g h)
 | .shape r k, g, h => congrArg (Sem.shape r) (funext fun v => bind_assoc' (k v) g h)
 | .freeze a n k, g, h => congrArg (Sem.freeze a n) (bind_assoc' k g h)
 | .frozen a k, g, h => congrArg (Sem.frozen a) (funext fun v => bind_assoc' (k v) g h)
 | .getObj r k, g, h => congrArg (Sem.getObj r) (funext fun v => bind_assoc' (k v) g h)
 | .setObj r o k, g, h => congrArg (Sem.setObj r o) (bind_assoc' k g h)
 | .choose q k, g, h => congrArg (Sem.choose q) (funext fun v => bind_assoc' (k v) g h)
 | .sys c k, g, h => congrArg (Sem.sys c) (funext fun v => bind_assoc' (k v) g h)
 | .program k, g, h => congrArg Sem.program (funext fun v => bind_assoc' (k v) g h)
 | .mark m k, g, h => congrArg (Sem.mark m) (bind_assoc' k g h)
 | .halt x, g, h => rfl
theorem SR.bind {P : Program} {F : FuncId → Prop} {α β γ δ : Type} {Q : Ren → α → β → Prop} {Q2 : Ren → γ → δ → Prop} {π : Ren} {s : Sem α} {s' : Sem β} {f : α → Sem γ} {f' : β → Sem δ}
  (h : SR P F Q π s s') (hf : ∀ π' a b, π.Le π' → Q π' a b → SR P F Q2 π' (f a) (f' b)) : SR P F Q2 π (s >>= f) (s' >>= f') := by
 show SR P F Q2 π (s.bind f) (s'.bind f')
 induction h with
 | pure h => exact hf _ _ _ (Ren.Le.refl _) h
 | load ha _ ih => exact .load ha fun v v' hv => ih v v' hv hf
 | store ha hv _ ih => exact .store ha hv (ih hf)
 | new ho _ ih => exact .new ho fun π' n n' hle h1 h2 => ih π' n n' hle h1 h2 fun π'' a b h3 => hf π'' a b (hle.trans h3)
 | shape hr _ ih => exact .shape hr fun s => ih s hf
 | freeze ha ho _ ih => exact .freeze ha ho (ih hf)
 | frozen ha _ ih => exact .frozen ha fun b b' hb => ih b b' hb hf
 | frozenR _ ih => exact .frozenR fun b => ih b hf
 | shapeR _ ih => exact .shapeR fun b => ih b hf
 | getObj hr _ ih => exact .getObj hr fun o o' ho => ih o o' ho hf
 | setObj hr ho _ ih => exact .setObj hr ho (ih hf)
 | choose _ ih => exact .choose fun n => ih n hf
 | chooseL t hq _ ih => exact .chooseL t hq (ih hf)
 | program _ ih => exact .program (ih hf)
 | room _ ih => exact .room (ih hf)
 | extern _ ih => exact .extern (ih hf)
 | dead h => exact .dead (h.bind _)
section
variable {P : Program} {F : FuncId → Prop} {α β : Type} {Q : Ren → α → β → Prop} {π : Ren}
theorem Be {γ : Type} (why : String) : Bc P (stuck why : Sem γ) := .halt (.stuck _)
theorem BQ {γ : Type} {u : Unsupported} (h : ∀ g, u ≠ .initOrder g) : Bc P (unsupported u : Sem γ) := .halt (.unsup h)
theorem Cw {γ : Type} (v : Value) : Bc P (goPanic v : Sem γ) := .halt (.panic _)
theorem SR.stuck {why : String} {s' : Sem β} : SR P F Q π (stuck why) s' := .dead (Be _)
theorem SR.stuckB {γ : Type} {why : String} {f : γ → Sem α} {s' : Sem β} : SR P F Q π (Go.stuck why >>= f) s' := .dead ((Be _).bind _)
theorem SR.unsup {u : Unsupported} {s' : Sem β} (h : ∀ g, u ≠ .initOrder g := by intro g; simp) : SR P F Q π (unsupported u) s' := .dead (BQ h)
theorem SR.unsupB {γ : Type} {u : Unsupported} {f : γ → Sem α} {s' : Sem β} (h : ∀ g, u ≠ .initOrder g := by intro g; simp) : SR P F Q π (unsupported u >>= f) s' := .dead ((BQ h).bind _)
theorem SR.ret {a : α} {b : β} (h : Q π a b) : SR P F Q π (Pure.pure a) (Pure.pure b) := .pure h
theorem SR.prog {f : Program → Sem α} {f' : Program → Sem β} (h : SR P F Q π (f P) (f' P)) : SR P F Q π (Go.program >>= f) (Go.program >>= f') := .program h
theorem SR.chooses {q : Question} {f : Nat → Sem α} {f' : Nat → Sem β} (h : ∀ n, SR P F Q π (f n) (f' n)) : SR P F Q π (Go.choose q >>= f) (Go.choose q >>= f') := .choose h
theorem SR.loads {m : Mode} {a a' : Addr} (ha : AdR π a a') {f : Value → Sem α} {f' : Value → Sem β} (h : ∀ v v', VR F π v v' → SR P F Q π (f v) (f' v')) : SR P F Q π (Go.load a m >>= f) (Go.load a' m >>= f') := .load ha h
theorem SR.shapes {r r' : Nat} (hr : π.to r = some r') {f : Option (TypeId × Nat) → Sem α} {f' : Option (TypeId × Nat) → Sem β} (h : ∀ s, SR P F Q π (f s) (f' s)) : SR P F Q π (Go.shape r >>= f) (Go.shape r' >>= f') := .shape hr h
theorem SR.frozens {a a' : Addr} (ha : AdR π a a') {f : Bool → Sem α} {f' : Bool → Sem β} (h : ∀ b b', (b' = true → b = true) → SR P F Q π (f b) (f' b')) : SR P F Q π (Go.frozen a >>= f) (Go.frozen a' >>= f') := .frozen ha h
theorem SR.gets {r r' : Nat} (hr : π.to r = some r') {f : Obj → Sem α} {f' : Obj → Sem β} (h : ∀ o o', Fj F π o o' → SR P F Q π (f o) (f' o')) : SR P F Q π (Go.getObj r >>= f) (Go.getObj r' >>= f') := .getObj hr h
theorem SR.sets {r r' : Nat} {o o' : Obj} (hr : π.to r = some r') (ho : Fj F π o o') {f : Unit → Sem α} {f' : Unit → Sem β} (h : SR P F Q π (f ()) (f' ())) : SR P F Q π (Go.setObj r o >>= f) (Go.setObj r' o' >>= f') := .setObj hr ho h
theorem SR.news {o o' : Obj} (ho : Fj F π o o') {f : Nat → Sem α} {f' : Nat → Sem β} (h : ∀ π' n n', π.Le π' → π'.to n = some n' → π'.own n → SR P F Q π' (f n) (f' n')) : SR P F Q π (Go.newObj o >>= f) (Go.newObj o' >>= f') := .new ho h
theorem JB {γ : Type} (t : TypeId) (f : TypeInfo → Sem γ) : typeInfo t >>= f = .program fun p => match p.info? t with
  | some i => f i
  | none => .halt (.stuck "no such type") := by
 show Sem.program _ = _
 congr 1
 funext p
 show ((match p.info? t with | some i => Pure.pure i | none => Go.stuck "no such type") : Sem TypeInfo).bind f = _
 cases p.info? t <;> rfl
theorem SR.info {t : TypeId} {f : TypeInfo → Sem α} {f' : TypeInfo → Sem β} (h : ∀ i, P.info? t = some i → SR P F Q π (f i) (f' i)) : SR P F Q π (typeInfo t >>= f) (typeInfo t >>= f') := by
 rw [JB, JB]
 refine SR.program ?_
 cases e : P.info? t with
 | some i => exact h i e
 | none => exact .dead (.halt (.stuck _))
theorem FV {γ : Type} (t : TypeId) (f : TypeDesc → Sem γ) : underlying t >>= f = .program fun p => match p.underlying t with
  | some i => f i
  | none => .halt (.stuck "no such type") := by
 show Sem.program _ = _
 congr 1
 funext p
 show ((match p.underlying t with | some i => Pure.pure i | none => Go.stuck "no such type") : Sem TypeDesc).bind f = _
 cases p.underlying t <;> rfl
theorem SR.under {t : TypeId} {f : TypeDesc → Sem α} {f' : TypeDesc → Sem β} (h : ∀ d, P.underlying t = some d → SR P F Q π (f d) (f' d)) : SR P F Q π (underlying t >>= f) (underlying t >>= f') := by
 rw [FV, FV]
 refine SR.program ?_
 cases e : P.underlying t with
 | some i => exact h i e
 | none => exact .dead (.halt (.stuck _))
end
end Go.Proofs.YtkkmokodaejheaaDoor
